/-
  test
-/
import Derived.Test.YtncjabmlkgacdaaGreatM2
set_option linter.unusedVariables false
set_option linter.unusedSimpArgs false
namespace Go.Proofs.YtncjabmlkgacdaaGreat.Bx
open Go Go.TH
attribute [local irreducible] W WO pt
def okR (r:Int × Int):Bool:=decide (0≤r.1∧r.1≤r.2∧r.2≤500∧r.2-r.1≤20)
def posR (r:Int × Int):Bool:=decide (0<r.1)
def chkHull (sp st:Int) (rows:List (List (Int × Int))):Int :=
 if rows.length<2∨10<rows.length∨(rows.getD 0 []).length<2∨6<(rows.getD 0 []).length then 6
 else if ¬ ∀ r∈rows,r.length=(rows.getD 0 []).length then 15
 else if sp<1∨1000<sp∨st<1∨100<st then 2
 else if ¬ ∀ r∈rows,∀ x∈r,okR x=true then 2
 else if ¬ ∃ r∈rows,∃ x∈r,posR x=true then 2
 else 0
set_option maxRecDepth 10000
section
variable {sp st:Int} {rows:List (List (Int × Int))}
theorem ck6 (h:rows.length<2∨10<rows.length∨(rows.getD 0 []).length<2∨6<(rows.getD 0 []).length):6=chkHull sp st rows:=by rw [chkHull,if_pos h]
theorem ck15 (h:¬ (rows.length<2∨10<rows.length∨(rows.getD 0 []).length<2∨6<(rows.getD 0 []).length)) (h1:¬ ∀ r∈rows,r.length=(rows.getD 0 []).length):15=chkHull sp st rows:=by rw [chkHull,if_neg h,if_pos h1]
theorem ck2a (h:¬ (rows.length<2∨10<rows.length∨(rows.getD 0 []).length<2∨6<(rows.getD 0 []).length)) (h1:∀ r∈rows,r.length=(rows.getD 0 []).length) (h2:sp<1∨1000<sp∨st<1∨100<st):2=chkHull sp st rows:=by rw [chkHull,if_neg h,if_neg (fun x=>x h1),if_pos h2]
theorem ck2b (h:¬ (rows.length<2∨10<rows.length∨(rows.getD 0 []).length<2∨6<(rows.getD 0 []).length)) (h1:∀ r∈rows,r.length=(rows.getD 0 []).length) (h3:¬ ∀ r∈rows,∀ x∈r,okR x=true):2=chkHull sp st rows:=by
 rw [chkHull,if_neg h,if_neg (fun x=>x h1),if_pos h3,ite_self]
theorem ck2c (h:¬ (rows.length<2∨10<rows.length∨(rows.getD 0 []).length<2∨6<(rows.getD 0 []).length)) (h1:∀ r∈rows,r.length=(rows.getD 0 []).length) (h4:¬ ∃ r∈rows,∃ x∈r,posR x=true):2=chkHull sp st rows:=by
 rw [chkHull,if_neg h,if_neg (fun x=>x h1),if_pos h4,ite_self,ite_self]
theorem ck0 (h:¬ (rows.length<2∨10<rows.length∨(rows.getD 0 []).length<2∨6<(rows.getD 0 []).length)) (h1:∀ r∈rows,r.length=(rows.getD 0 []).length) (h2:¬ (sp<1∨1000<sp∨st<1∨100<st)) (h3:∀ r∈rows,∀ x∈r,okR x=true) (h4:∃ r∈rows,∃ x∈r,posR x=true):0=chkHull sp st rows:=by
 rw [chkHull,if_neg h,if_neg (fun x=>x h1),if_neg h2,if_neg (fun x=>x h3),if_neg (fun x=>x h4)]
theorem not_ok {i k:Nat} (hi:i<rows.length) (hk:k<(rows.getD i []).length) (hn:¬ okR ((rows.getD i []).getD k (0,0))=true):¬ ∀ r∈rows,∀ x∈r,okR x=true :=
 fun h=>hn (h _ (getD_mem hi []) _ (getD_mem hk (0,0)))
end
theorem ref_checkHull (w:World) (sp st:Int) (o:Value) (rv:List Value) (rows:List (List (Int × Int))) (hR:RdR encP 2 w.heap.size w o rv rows) :
 Ret Tryz.prog 23 [.agg #[.int .i64 sp,.int .i64 st,o]].toArray w (.int .i64 (chkHull sp st rows)):=by
 refine Ret.of mixed tyTab Tryz.func23 rfl rfl ?_
 replace hR:RdR encP 2 (fnCx mixed tyTab Tryz.f23.ntmps w).B (fnCx mixed tyTab Tryz.f23.ntmps w).w0 o rv rows:=hR
 have hle:=hR.sl.le
 refine W.sreg (WO.boxA rfl rfl (fun b1 hb1=>(WO.p rfl rfl (WO.nil (W.sreg (WO.fieldL rfl rfl rfl (WO.load rfl rfl (Cell.own Pick.head rfl) rfl ?_)))))))
 refine' WO.len (n:=_) rfl rfl ?hs rfl ?_
 case hs=>(exact hR.sl)
 refine WO.p rfl rfl (WO.nil (W.seq (W.sreg (WO.p rfl rfl (WO.p rfl rfl (WO.p rfl rfl ?_))))))
 refine WO.guard_bl rfl rfl (fun c1=>?_) (fun c1=>?_)
 ·refine WO.no rfl rfl (WO.no rfl rfl (WO.p rfl rfl (WO.p rfl rfl (WO.no rfl rfl (WO.no rfl rfl (WO.no rfl rfl (WO.no rfl rfl (WO.no rfl rfl (WO.no rfl rfl (WO.p rfl rfl (WO.p rfl rfl (WO.no rfl rfl (WO.no rfl rfl (WO.no rfl rfl (WO.no rfl rfl (WO.no rfl rfl (WO.no rfl rfl (WO.p rfl rfl (WO.nil (W.cond_t rfl (W.sreg (WO.p rfl rfl (WO.nil (W.ret (fin.ret (Res.one rfl (RV.tmp rfl)) (congrArg (Value.int .i64) ?_))))))))))))))))))))))))))
  exact ck6 (by omega)
 ·refine WO.pg rfl rfl rfl (WO.pg rfl rfl rfl (WO.p rfl rfl (WO.p rfl rfl ?_)))
  refine WO.guard_bl rfl rfl (fun c2=>?_) (fun c2=>?_)
  ·refine WO.no rfl rfl (WO.no rfl rfl (WO.no rfl rfl (WO.no rfl rfl (WO.no rfl rfl (WO.no rfl rfl (WO.p rfl rfl (WO.p rfl rfl (WO.no rfl rfl (WO.no rfl rfl (WO.no rfl rfl (WO.no rfl rfl (WO.no rfl rfl (WO.no rfl rfl (WO.p rfl rfl (WO.nil (W.cond_t rfl (W.sreg (WO.p rfl rfl (WO.nil (W.ret (fin.ret (Res.one rfl (RV.tmp rfl)) (congrArg (Value.int .i64) ?_))))))))))))))))))))))
   exact ck6 (by omega)
  ·refine WO.go' rfl (WO.fieldL rfl rfl rfl (WO.go' rfl (WO.load rfl rfl (Cell.own Pick.head rfl) rfl (WO.go' rfl ?_))))
   refine' WO.indexAddr (n:=_) (i:=0) rfl rfl rfl ?hs ?h1 rfl ?_
   case hs=>(exact hR.sl)
   case h1=>(omega)
   refine WO.go' rfl ?_
   refine' WO.load (v:=_) rfl rfl ?hc rfl ?_
   case hc=>(first | (refine hR.cellV ?_;omega) | (refine (hR.row _ ?_).cell0 ?_ (0,0) ?_ <;> first | rfl | omega) | (refine (hR.row _ ?_).cellAt ?_ (0,0) ?_ <;> first | rfl | omega))
   refine WO.go' rfl ?_
   refine' WO.len (n:=_) rfl rfl ?hs rfl ?_
   case hs=>((refine (hR.row _ ?_).sl;omega))
   refine WO.pg rfl rfl rfl (WO.p rfl rfl (WO.p rfl rfl ?_))
   refine WO.guard_bl rfl rfl (fun c3=>?_) (fun c3=>?_)
   ·refine WO.no rfl rfl (WO.no rfl rfl (WO.no rfl rfl (WO.no rfl rfl (WO.no rfl rfl (WO.no rfl rfl (WO.p rfl rfl (WO.nil (W.cond_t rfl (W.sreg (WO.p rfl rfl (WO.nil (W.ret (fin.ret (Res.one rfl (RV.tmp rfl)) (congrArg (Value.int .i64) ?_))))))))))))))
    exact ck6 (by omega)
   ·refine WO.go' rfl (WO.fieldL rfl rfl rfl (WO.go' rfl (WO.load rfl rfl (Cell.own Pick.head rfl) rfl (WO.go' rfl ?_))))
    refine' WO.indexAddr (n:=_) (i:=0) rfl rfl rfl ?hs ?h1 rfl ?_
    case hs=>(exact hR.sl)
    case h1=>(omega)
    refine WO.go' rfl ?_
    refine' WO.load (v:=_) rfl rfl ?hc rfl ?_
    case hc=>(first | (refine hR.cellV ?_;omega) | (refine (hR.row _ ?_).cell0 ?_ (0,0) ?_ <;> first | rfl | omega) | (refine (hR.row _ ?_).cellAt ?_ (0,0) ?_ <;> first | rfl | omega))
    refine WO.go' rfl ?_
    refine' WO.len (n:=_) rfl rfl ?hs rfl ?_
    case hs=>((refine (hR.row _ ?_).sl;omega))
    refine WO.pg rfl rfl rfl (WO.p rfl rfl (WO.nil ?_))
    refine W.cond_bl rfl (fun c4=>?_) (fun c4=>?_)
    ·refine W.sreg (WO.p rfl rfl (WO.nil (W.ret (fin.ret (Res.one rfl (RV.tmp rfl)) (congrArg (Value.int .i64) ?_)))))
     exact ck6 (by omega)
    ·refine W.skip (W.seq (W.sreg (WO.p rfl rfl (WO.nil (W.block ?_)))))
     refine W.loop (fun (i:Nat)=>i≤rows.length∧∀ r∈rows.take i,r.length=(rows.getD 0 []).length)
      (fun (i:Nat)=>[(4,.int .i64 (i:Int)),(3,.int .i64 rows.length),(1,.pointer (some ⟨b1,0,none⟩))])
      (fun (i:Nat)=>[pt b1 (.cells #[.int .i64 sp,.int .i64 st,o] 78 (0,0))])
      (fun (i:Nat)=>rows.length-i) 0
      (by exact ⟨by omega,by simp⟩) ⟨rfl,rfl,rfl,trivial⟩ (by repeat (first | exact Sub.nil | refine Sub.cons (by repeat exact .head) ?_)) ?_
     rintro i ⟨hi,hrows⟩
     refine W.seq (W.sreg (WO.p rfl rfl (WO.p rfl rfl (WO.p rfl rfl (WO.nil ?_)))))
     refine W.cond_bl rfl (fun c5=>?_) (fun c5=>?_)
     ·refine W.skip (W.seq (W.block (W.seq ?_)))
      refine W.drawD 11 [.r 0 [],.b 1 [],.r 2 [],.r 3 [],.b 4 [],.r 5 [],.r 6 [],.b 7 [],.r 8 [],.b 9 [],.r 10 []] [] (A0:=[]) (Sub.refl _) (by kernel_rfl) ?_ ?_
      ·repeat constructor
      refine DT.r rfl rfl rfl (WO.fieldL rfl rfl rfl (WO.nil ⟨rfl,rfl⟩)) (DT.b rfl rfl rfl (WO.load rfl rfl (Cell.own Pick.head rfl) rfl (WO.nil ⟨rfl,rfl⟩)) (DT.r rfl rfl rfl (WO.p rfl rfl (WO.nil ⟨rfl,rfl⟩)) ?_))
      refine' DT.r rfl rfl rfl ?hq ?_
      case hq =>
       refine' WO.indexAddr (n:=_) (i:=_) rfl rfl rfl ?hs ?h1 rfl ?_
       case hs=>(exact hR.sl)
       case h1=>(omega)
       exact WO.nil ⟨rfl,rfl⟩
      refine' DT.b rfl rfl rfl ?hq ?_
      case hq =>
       refine' WO.load (v:=_) rfl rfl ?hc rfl ?_
       case hc=>(first | (refine hR.cellV ?_;omega) | (refine (hR.row _ ?_).cell0 ?_ (0,0) ?_ <;> first | rfl | omega) | (refine (hR.row _ ?_).cellAt ?_ (0,0) ?_ <;> first | rfl | omega))
       exact WO.nil ⟨rfl,rfl⟩
      refine' DT.r rfl rfl rfl ?hq ?_
      case hq =>
       refine' WO.len (n:=_) rfl rfl ?hs rfl ?_
       case hs=>((refine (hR.row _ ?_).sl;omega))
       exact WO.nil ⟨rfl,rfl⟩
      refine DT.r rfl rfl rfl (WO.fieldL rfl rfl rfl (WO.nil ⟨rfl,rfl⟩)) (DT.b rfl rfl rfl (WO.load rfl rfl (Cell.own Pick.head rfl) rfl (WO.nil ⟨rfl,rfl⟩)) ?_)
      refine' DT.r rfl rfl rfl ?hq ?_
      case hq =>
       refine' WO.indexAddr (n:=_) (i:=0) rfl rfl rfl ?hs ?h1 rfl ?_
       case hs=>(exact hR.sl)
       case h1=>(omega)
       exact WO.nil ⟨rfl,rfl⟩
      refine' DT.b rfl rfl rfl ?hq ?_
      case hq =>
       refine' WO.load (v:=_) rfl rfl ?hc rfl ?_
       case hc=>(first | (refine hR.cellV ?_;omega) | (refine (hR.row _ ?_).cell0 ?_ (0,0) ?_ <;> first | rfl | omega) | (refine (hR.row _ ?_).cellAt ?_ (0,0) ?_ <;> first | rfl | omega))
       exact WO.nil ⟨rfl,rfl⟩
      refine' DT.r rfl rfl rfl ?hq ?_
      case hq =>
       refine' WO.len (n:=_) rfl rfl ?hs rfl ?_
       case hs=>((refine (hR.row _ ?_).sl;omega))
       exact WO.nil ⟨rfl,rfl⟩
      refine DT.nil [_] rfl (WO.p rfl rfl (WO.nil ?_))
      refine W.cond_bl rfl (fun c6=>?_) (fun c6=>?_)
      ·refine W.sreg (WO.p rfl rfl (WO.nil (W.ret (fin.ret (Res.one rfl (RV.tmp rfl)) (congrArg (Value.int .i64) ?_)))))
       exact ck15 (by omega) (not_all_getD (p:=fun r=>r.length=(rows.getD 0 []).length) (i:=i) (by omega) [] (fun h=>by have h':(rows.getD i []).length=(rows.getD 0 []).length:=h;omega))
      ·refine W.skip (W.region (WO.p rfl rfl (WO.ar rfl rfl rfl (by (first | (unfold in64;omega))) rfl (WO.p rfl rfl (WO.nil ?_)))))
       refine' ⟨i+1,?hp,?hmu,⟨rfl,rfl,rfl,trivial⟩,?hS⟩
       case hS=>repeat (first | exact Sub.nil | refine Sub.cons (by repeat exact .head) ?_)
       case hp=>exact ⟨by omega,all_succ (by omega) [] hrows (by omega)⟩
       case hmu=>omega
     ·refine W.exit (blk_same (W.seq (W.sreg (WO.field0 rfl rfl rfl (WO.load rfl rfl (Cell.own Pick.head rfl) rfl (WO.p rfl rfl (WO.p rfl rfl ?_)))))))
      refine WO.guard_bl rfl rfl (fun c7=>?_) (fun c7=>?_)
      ·refine WO.no rfl rfl (WO.no rfl rfl (WO.no rfl rfl (WO.p rfl rfl (WO.p rfl rfl (WO.no rfl rfl (WO.no rfl rfl (WO.no rfl rfl (WO.p rfl rfl (WO.p rfl rfl (WO.no rfl rfl (WO.no rfl rfl (WO.no rfl rfl (WO.p rfl rfl (WO.nil (W.cond_t rfl (W.sreg (WO.p rfl rfl (WO.nil (W.ret (fin.ret (Res.one rfl (RV.tmp rfl)) (congrArg (Value.int .i64) ?_)))))))))))))))))))))
       exact ck2a (by omega) (all_len (by omega) hrows) (by omega)
      ·refine WO.go' rfl (WO.field0 rfl rfl rfl (WO.go' rfl (WO.load rfl rfl (Cell.own Pick.head rfl) rfl (WO.pg rfl rfl rfl (WO.p rfl rfl (WO.p rfl rfl ?_))))))
       refine WO.guard_bl rfl rfl (fun c8=>?_) (fun c8=>?_)
       ·refine WO.no rfl rfl (WO.no rfl rfl (WO.no rfl rfl (WO.p rfl rfl (WO.p rfl rfl (WO.no rfl rfl (WO.no rfl rfl (WO.no rfl rfl (WO.p rfl rfl (WO.nil (W.cond_t rfl (W.sreg (WO.p rfl rfl (WO.nil (W.ret (fin.ret (Res.one rfl (RV.tmp rfl)) (congrArg (Value.int .i64) ?_))))))))))))))))
        exact ck2a (by omega) (all_len (by omega) hrows) (by omega)
       ·refine WO.go' rfl (WO.fieldL rfl rfl rfl (WO.go' rfl (WO.load rfl rfl (Cell.own Pick.head rfl) rfl (WO.pg rfl rfl rfl (WO.p rfl rfl (WO.p rfl rfl ?_))))))
        refine WO.guard_bl rfl rfl (fun c9=>?_) (fun c9=>?_)
        ·refine WO.no rfl rfl (WO.no rfl rfl (WO.no rfl rfl (WO.p rfl rfl (WO.nil (W.cond_t rfl (W.sreg (WO.p rfl rfl (WO.nil (W.ret (fin.ret (Res.one rfl (RV.tmp rfl)) (congrArg (Value.int .i64) ?_)))))))))))
         exact ck2a (by omega) (all_len (by omega) hrows) (by omega)
        ·refine WO.go' rfl (WO.fieldL rfl rfl rfl (WO.go' rfl (WO.load rfl rfl (Cell.own Pick.head rfl) rfl (WO.pg rfl rfl rfl (WO.p rfl rfl (WO.nil ?_))))))
         refine W.cond_bl rfl (fun c10=>?_) (fun c10=>?_)
         ·refine W.sreg (WO.p rfl rfl (WO.nil (W.ret (fin.ret (Res.one rfl (RV.tmp rfl)) (congrArg (Value.int .i64) ?_)))))
          exact ck2a (by omega) (all_len (by omega) hrows) (by omega)
         ·refine W.skip (W.sreg (WO.p rfl rfl (WO.nil (W.seq (W.sreg (WO.p rfl rfl (WO.nil (W.block ?_))))))))
          refine W.loop2 (fun (i:Nat) (s:Bool)=>i≤rows.length∧(∀ r∈rows.take i,∀ x∈r,okR x=true)∧(s=true↔∃ r∈rows.take i,∃ x∈r,posR x=true))
           (fun (i:Nat) (s:Bool)=>[(6,.int .i64 (i:Int)),(3,.int .i64 rows.length),(5,.bool s),(1,.pointer (some ⟨b1,0,none⟩))])
           (fun (i:Nat) (s:Bool)=>[pt b1 (.cells #[.int .i64 sp,.int .i64 st,o] 78 (0,0))])
           (fun (i:Nat) (s:Bool)=>rows.length-i) 0 false
           (by exact ⟨by omega,by simp,by simp⟩) ⟨rfl,rfl,rfl,rfl,trivial⟩ (by repeat (first | exact Sub.nil | refine Sub.cons (by repeat exact .head) ?_)) ?_
          rintro i s ⟨hi,hok,hs⟩
          refine W.seq (W.sreg (WO.p rfl rfl (WO.p rfl rfl (WO.p rfl rfl (WO.nil ?_)))))
          refine W.cond_bl rfl (fun c11=>?_) (fun c11=>?_)
          ·refine W.skip (W.seq (W.block (W.sreg (WO.p rfl rfl (WO.nil (W.block ?_))))))
           refine W.loop2 (fun (k:Nat) (s:Bool)=>k≤(rows.getD i []).length∧(∀ x∈(rows.getD i []).take k,okR x=true)∧(s=true↔(∃ r∈rows.take i,∃ x∈r,posR x=true)∨∃ x∈(rows.getD i []).take k,posR x=true))
            (fun (k:Nat) (s:Bool)=>[(6,.int .i64 (i:Int)),(7,.int .i64 (k:Int)),(3,.int .i64 rows.length),(5,.bool s),(1,.pointer (some ⟨b1,0,none⟩))])
            (fun (k:Nat) (s:Bool)=>[pt b1 (.cells #[.int .i64 sp,.int .i64 st,o] 78 (0,0))])
            (fun (k:Nat) (s:Bool)=>(rows.getD i []).length-k) 0 s
            (by exact ⟨by omega,by simp,by simp [hs]⟩) ⟨rfl,rfl,rfl,rfl,rfl,trivial⟩ (by repeat (first | exact Sub.nil | refine Sub.cons (by repeat exact .head) ?_)) ?_
           rintro k s ⟨hk,hok2,hs2⟩
           have hlk:=(hR.row i (by omega)).sl.le
           refine W.seq (W.sreg (WO.p rfl rfl (WO.fieldL rfl rfl rfl (WO.load rfl rfl (Cell.own Pick.head rfl) rfl (WO.p rfl rfl ?_)))))
           refine' WO.indexAddr (n:=_) (i:=_) rfl rfl rfl ?hs ?h1 rfl ?_
           case hs=>(exact hR.sl)
           case h1=>(omega)
           refine' WO.load (v:=_) rfl rfl ?hc rfl ?_
           case hc=>(first | (refine hR.cellV ?_;omega) | (refine (hR.row _ ?_).cell0 ?_ (0,0) ?_ <;> first | rfl | omega) | (refine (hR.row _ ?_).cellAt ?_ (0,0) ?_ <;> first | rfl | omega))
           refine' WO.len (n:=_) rfl rfl ?hs rfl ?_
           case hs=>((refine (hR.row _ ?_).sl;omega))
           refine WO.p rfl rfl (WO.nil ?_)
           refine W.cond_bl rfl (fun c12=>?_) (fun c12=>?_)
           ·refine W.skip (W.seq (W.block (W.sreg (WO.fieldL rfl rfl rfl (WO.load rfl rfl (Cell.own Pick.head rfl) rfl (WO.p rfl rfl ?_))))))
            refine' WO.indexAddr (n:=_) (i:=_) rfl rfl rfl ?hs ?h1 rfl ?_
            case hs=>(exact hR.sl)
            case h1=>(omega)
            refine' WO.load (v:=_) rfl rfl ?hc rfl ?_
            case hc=>(first | (refine hR.cellV ?_;omega) | (refine (hR.row _ ?_).cell0 ?_ (0,0) ?_ <;> first | rfl | omega) | (refine (hR.row _ ?_).cellAt ?_ (0,0) ?_ <;> first | rfl | omega))
            refine WO.p rfl rfl ?_
            refine' WO.indexAddr (n:=_) (i:=_) rfl rfl rfl ?hs ?h1 rfl ?_
            case hs=>((refine (hR.row _ ?_).sl;omega))
            case h1=>(omega)
            refine' WO.loadA (vs:=_) rfl rfl ?hc ?hl rfl ?_
            case hc=>((refine (hR.row _ ?_).cells ?_ (0,0) <;> omega))
            case hl=>rfl
            refine WO.alloc rfl rfl rfl (fun b2 hb2=>(WO.storeA rfl rfl rfl rfl Pick.head rfl rfl (WO.nil (W.seq (W.sreg (WO.field0 rfl rfl rfl (WO.load rfl rfl (Cell.own Pick.head rfl) rfl (WO.p rfl rfl (WO.p rfl rfl ?_)))))))))
            refine WO.guard_bl rfl rfl (fun c13=>?_) (fun c13=>?_)
            ·refine WO.no rfl rfl (WO.no rfl rfl (WO.no rfl rfl (WO.no rfl rfl (WO.no rfl rfl (WO.p rfl rfl (WO.p rfl rfl (WO.no rfl rfl (WO.no rfl rfl (WO.no rfl rfl (WO.p rfl rfl (WO.p rfl rfl (WO.no rfl rfl (WO.no rfl rfl (WO.no rfl rfl (WO.no rfl rfl (WO.no rfl rfl (WO.no rfl rfl (WO.p rfl rfl (WO.nil (W.cond_t rfl (W.sreg (WO.p rfl rfl (WO.nil (W.ret (fin.ret (Res.one rfl (RV.tmp rfl)) (congrArg (Value.int .i64) ?_))))))))))))))))))))))))))
             exact ck2b (by omega) (all_len (by omega) hrows) (not_ok (i:=i) (k:=k) (by omega) (by omega) (by simp only [okR,decide_eq_true_eq];omega))
            ·refine WO.go' rfl (WO.field0 rfl rfl rfl (WO.go' rfl (WO.load rfl rfl (Cell.own Pick.head rfl) rfl (WO.go' rfl (WO.fieldL rfl rfl rfl (WO.go' rfl (WO.load rfl rfl (Cell.own Pick.head rfl) rfl (WO.pg rfl rfl rfl (WO.p rfl rfl (WO.p rfl rfl ?_))))))))))
             refine WO.guard_bl rfl rfl (fun c14=>?_) (fun c14=>?_)
             ·refine WO.no rfl rfl (WO.no rfl rfl (WO.no rfl rfl (WO.p rfl rfl (WO.p rfl rfl (WO.no rfl rfl (WO.no rfl rfl (WO.no rfl rfl (WO.no rfl rfl (WO.no rfl rfl (WO.no rfl rfl (WO.p rfl rfl (WO.nil (W.cond_t rfl (W.sreg (WO.p rfl rfl (WO.nil (W.ret (fin.ret (Res.one rfl (RV.tmp rfl)) (congrArg (Value.int .i64) ?_)))))))))))))))))))
              exact ck2b (by omega) (all_len (by omega) hrows) (not_ok (i:=i) (k:=k) (by omega) (by omega) (by simp only [okR,decide_eq_true_eq];omega))
             ·refine WO.go' rfl (WO.fieldL rfl rfl rfl (WO.go' rfl (WO.load rfl rfl (Cell.own Pick.head rfl) rfl (WO.pg rfl rfl rfl (WO.p rfl rfl (WO.p rfl rfl ?_))))))
              refine WO.guard_bl rfl rfl (fun c15=>?_) (fun c15=>?_)
              ·refine WO.no rfl rfl (WO.no rfl rfl (WO.no rfl rfl (WO.no rfl rfl (WO.no rfl rfl (WO.no rfl rfl (WO.p rfl rfl (WO.nil (W.cond_t rfl (W.sreg (WO.p rfl rfl (WO.nil (W.ret (fin.ret (Res.one rfl (RV.tmp rfl)) (congrArg (Value.int .i64) ?_))))))))))))))
               exact ck2b (by omega) (all_len (by omega) hrows) (not_ok (i:=i) (k:=k) (by omega) (by omega) (by simp only [okR,decide_eq_true_eq];omega))
              ·refine WO.go' rfl (WO.fieldL rfl rfl rfl (WO.go' rfl (WO.load rfl rfl (Cell.own Pick.head rfl) rfl (WO.go' rfl (WO.field0 rfl rfl rfl (WO.go' rfl (WO.load rfl rfl (Cell.own Pick.head rfl) rfl (WO.go' rfl (WO.ar rfl rfl rfl (by (first | (unfold in64;omega))) rfl (WO.pg rfl rfl rfl (WO.p rfl rfl (WO.nil ?_))))))))))))
               refine W.cond_bl rfl (fun c16=>?_) (fun c16=>?_)
               ·refine W.sreg (WO.p rfl rfl (WO.nil (W.ret (fin.ret (Res.one rfl (RV.tmp rfl)) (congrArg (Value.int .i64) ?_)))))
                exact ck2b (by omega) (all_len (by omega) hrows) (not_ok (i:=i) (k:=k) (by omega) (by omega) (by simp only [okR,decide_eq_true_eq];omega))
               ·refine W.skip (W.region (WO.p rfl rfl (WO.p rfl rfl ?_)))
                refine WO.guard_b rfl rfl (fun c17=>?_) (fun c17=>?_)
                ·refine WO.no rfl rfl (WO.no rfl rfl (WO.no rfl rfl (WO.p rfl rfl (WO.p rfl rfl (WO.nil (W.region (WO.p rfl rfl (WO.ar rfl rfl rfl (by (first | (unfold in64;omega))) rfl (WO.p rfl rfl (WO.nil ?_))))))))))
                 refine' ⟨k+1,_,?hp,?hmu,⟨rfl,rfl,rfl,rfl,rfl,trivial⟩,?hS⟩
                 case hS=>repeat (first | exact Sub.nil | refine Sub.cons (by repeat first | exact .head | apply Pick.tail) ?_)
                 case hp=>exact ⟨by omega,all_succ (by omega) (0,0) hok2 (by simp only [okR,decide_eq_true_eq];omega),by rw [ex_succ (by omega) (0,0)];first | (rw [← or_assoc,← hs2];simp_all [posR,bl_t];done)⟩
                 case hmu=>omega
                ·refine WO.go' rfl (WO.field0 rfl rfl rfl (WO.go' rfl (WO.load rfl rfl (Cell.own Pick.head rfl) rfl (WO.pg rfl rfl rfl (WO.p rfl rfl (WO.p rfl rfl (WO.nil (W.region (WO.p rfl rfl (WO.ar rfl rfl rfl (by (first | (unfold in64;omega))) rfl (WO.p rfl rfl (WO.nil ?_))))))))))))
                 refine' ⟨k+1,_,?hp,?hmu,⟨rfl,rfl,rfl,rfl,rfl,trivial⟩,?hS⟩
                 case hS=>repeat (first | exact Sub.nil | refine Sub.cons (by repeat first | exact .head | apply Pick.tail) ?_)
                 case hp=>exact ⟨by omega,all_succ (by omega) (0,0) hok2 (by simp only [okR,decide_eq_true_eq];omega),by rw [ex_succ (by omega) (0,0)];first | (rw [← or_assoc,← hs2];simp_all [posR,bl_t];done)⟩
                 case hmu=>omega
           ·refine W.exit (blk_same (W.region (WO.p rfl rfl (WO.ar rfl rfl rfl (by (first | (unfold in64;omega))) rfl (WO.p rfl rfl (WO.nil ?_))))))
            refine' ⟨i+1,_,?hp,?hmu,⟨rfl,rfl,rfl,rfl,trivial⟩,?hS⟩
            case hS=>repeat (first | exact Sub.nil | refine Sub.cons (by repeat exact .head) ?_)
            case hp=>exact ⟨by omega,all_succ (by omega) [] hok (all_len (by omega) hok2),by rw [ex_succ (by omega) [],hs2,ex_len (l:=rows.getD i []) (i:=k) (by omega)]⟩
            case hmu=>omega
          ·refine W.exit (blk_same (W.seq (W.sreg (WO.p rfl rfl (WO.p rfl rfl (WO.nil ?_))))))
           refine W.cond rfl (fun c18=>?_) (fun c18=>?_)
           ·refine W.sreg (WO.p rfl rfl (WO.nil (W.ret (fin.ret (Res.one rfl (RV.tmp rfl)) (congrArg (Value.int .i64) ?_)))))
            exact ck2c (by omega) (all_len (by omega) hrows) (by rw [← ex_len (i:=i) (by omega),← hs];simp_all)
           ·refine W.skip (W.sreg (WO.p rfl rfl (WO.nil (W.ret (fin.ret (Res.one rfl (RV.tmp rfl)) (congrArg (Value.int .i64) ?_))))))
            exact ck0 (by omega) (all_len (by omega) hrows) (by omega) (all_len (by omega) hok) (by rw [← ex_len (i:=i) (by omega),← hs];simp_all)
end Go.Proofs.YtncjabmlkgacdaaGreat.Bx
namespace Go.Proofs.YtncjabmlkgacdaaGreat.Bx
open Go Go.TH
attribute [local irreducible] W WO pt
set_option maxRecDepth 10000
end Go.Proofs.YtncjabmlkgacdaaGreat.Bx
namespace Go.Proofs.YtncjabmlkgacdaaGreat.Bx
open Go Go.TH
attribute [local irreducible] W WO pt
set_option maxRecDepth 10000
def ps (f:Nat→Int):Nat→Int
 | 0=>0
 | k+1=>ps f k+f k
theorem ps_bound {f:Nat→Int} {B:Int}:∀ {k:Nat},(∀ j,j<k→0≤f j∧f j≤B)→0≤ps f k∧ps f k≤k*B
 | 0,_=>by simp [ps]
 | k+1,h=>by
  have h1:=ps_bound (k:=k) (fun j hj=>h j (by omega))
  have h2:=h k (by omega)
  have e:((k+1:Nat):Int)*B=k*B+B:=by rw [Int.natCast_add,Int.add_mul];simp
  simp only [ps]
  omega
theorem mulB {a b A B:Int} (ha:0≤a∧a≤A) (hb:0≤b∧b≤B):0≤a*b∧a*b≤A*B :=
 ⟨Int.mul_nonneg ha.1 hb.1,Int.mul_le_mul ha.2 hb.2 hb.1 (by omega)⟩
theorem wgtB (i n:Nat):0≤wgt i n∧wgt i n≤2:=by unfold wgt;split <;> omega
theorem in64B {a A:Int} (h:0≤a∧a≤A) (hA:A≤9223372036854775807):in64 a:=by unfold in64;omega
def yy (ys:List (List Int)) (i k:Nat):Int:=(ys.getD i []).getD k 0
def xw (ys:List (List Int)) (i k:Nat):Int:=wgt i ys.length*wgt k (ys.getD i []).length*yy ys i k
def sAll (ys:List (List Int)) (i:Nat):Int:=ps (fun i=>ps (fun k=>xw ys i k) (ys.getD i []).length) i
def sAlong (ys:List (List Int)) (i:Nat):Int:=ps (fun i=>ps (fun k=>(i:Int)*xw ys i k) (ys.getD i []).length) i
def sAbove (ys:List (List Int)) (i:Nat):Int:=ps (fun i=>ps (fun k=>(k:Int)*xw ys i k) (ys.getD i []).length) i
def lastY (ys:List (List Int)) (i:Nat):Int:=yy ys i (((ys.getD i []).length:Int)-1).toNat
def sCubes (ys:List (List Int)) (i:Nat):Int:=ps (fun i=>wgt i ys.length*lastY ys i*lastY ys i*lastY ys i) i
structure Small (ys:List (List Int)):Prop where
 n:ys.length≤10
 m:∀ i,i<ys.length→1≤(ys.getD i []).length∧(ys.getD i []).length≤6
 y:∀ i k,i<ys.length→k<(ys.getD i []).length→0≤yy ys i k∧yy ys i k≤500
section
variable {ys:List (List Int)}
theorem Small.xw (h:Small ys) {i k:Nat} (hi:i<ys.length) (hk:k<(ys.getD i []).length):0≤xw ys i k∧xw ys i k≤2000:=mulB (mulB (wgtB _ _) (wgtB _ _)) (h.y i k hi hk)
theorem Small.rowp (h:Small ys) {c:Nat→Nat→Int} {B:Int} (hB:0≤B) (hc:∀ i k,i<ys.length→k<(ys.getD i []).length→0≤c i k∧c i k≤B) {i k:Nat} (hi:i<ys.length) (hk:k≤(ys.getD i []).length):0≤ps (c i) k∧ps (c i) k≤6*B:=by
 have h1:=ps_bound (f:=c i) (B:=B) (k:=k) (fun j hj=>hc i j hi (by omega))
 have h2:=h.m i hi
 have h3:(k:Int)*B≤6*B:=Int.mul_le_mul_of_nonneg_right (by omega) hB
 omega
theorem Small.tot (h:Small ys) {c:Nat→Nat→Int} {B:Int} (hB:0≤B) (hc:∀ i k,i<ys.length→k<(ys.getD i []).length→0≤c i k∧c i k≤B) {i:Nat} (hi:i≤ys.length):0≤ps (fun i=>ps (c i) (ys.getD i []).length) i∧ps (fun i=>ps (c i) (ys.getD i []).length) i≤60*B:=by
 have h1:=ps_bound (f:=fun i=>ps (c i) (ys.getD i []).length) (B:=6*B) (k:=i) (fun j hj=>h.rowp hB hc (by omega) (Nat.le_refl _))
 have h2:=h.n
 have h3:(i:Int)*(6*B)≤10*(6*B):=Int.mul_le_mul_of_nonneg_right (by omega) (by omega)
 omega
theorem Small.kxw (h:Small ys) {i k:Nat} (hi:i<ys.length) (hk:k<(ys.getD i []).length):0≤(k:Int)*Bx.xw ys i k∧(k:Int)*Bx.xw ys i k≤12000:=by
 have h1:=h.m i hi
 exact mulB (A:=6) (B:=2000) ⟨by omega,by omega⟩ (h.xw hi hk)
theorem Small.last (h:Small ys) {i:Nat} (hi:i<ys.length):0≤lastY ys i∧lastY ys i≤500:=by
 have h1:=h.m i hi
 exact h.y i _ hi (by omega)
theorem Small.all (h:Small ys) {i:Nat} (hi:i≤ys.length):0≤sAll ys i∧sAll ys i≤120000:=h.tot (c:=fun i k=>Bx.xw ys i k) (B:=2000) (by omega) (fun i k hi hk=>h.xw hi hk) hi
theorem Small.above (h:Small ys) {i:Nat} (hi:i≤ys.length):0≤sAbove ys i∧sAbove ys i≤720000:=h.tot (c:=fun i k=>(k:Int)*Bx.xw ys i k) (B:=12000) (by omega) (fun i k hi hk=>h.kxw hi hk) hi
end
end Go.Proofs.YtncjabmlkgacdaaGreat.Bx
namespace Go.Proofs.YtncjabmlkgacdaaGreat.Bx
open Go Go.TH
attribute [local irreducible] W WO pt
set_option maxRecDepth 10000
/-- row i of the offsets is within row i of the hull -/
def rowIn (rows:List (List (Int × Int))) (ys:List (List Int)) (i:Nat):Prop:=∀ k,k<(ys.getD i []).length→((rows.getD i []).getD k (0,0)).1≤(ys.getD i []).getD k 0∧(ys.getD i []).getD k 0≤((rows.getD i []).getD k (0,0)).2
instance (rows:List (List (Int × Int))) (ys:List (List Int)) (i:Nat):Decidable (rowIn rows ys i):=by unfold rowIn;infer_instance
def chkTrue (sp st:Int) (rows:List (List (Int × Int))) (ys:List (List Int)):Int :=
  if chkHull sp st rows≠0 then chkHull sp st rows
  else if ys.length≠rows.length then 15
  else if ¬ ∀ i,i<ys.length→(ys.getD i []).length=(rows.getD i []).length then 15
  else if ¬ ∀ i,i<ys.length→rowIn rows ys i then 3
  else 0
section
variable {sp st:Int} {rows:List (List (Int × Int))} {ys:List (List Int)}
theorem ct5 (h:¬ chkHull sp st rows≠0) (h1:ys.length=rows.length) (h2:∀ i,i<ys.length→(ys.getD i []).length=(rows.getD i []).length) (h3:∀ i,i<ys.length→rowIn rows ys i):0=chkTrue sp st rows ys:=by
  rw [chkTrue,if_neg h,if_neg (fun x=>x h1),if_neg (fun x=>x h2),if_neg (fun x=>x h3)]
end
end Go.Proofs.YtncjabmlkgacdaaGreat.Bx
namespace Go.Proofs.YtncjabmlkgacdaaGreat.Bx
open Go Go.TH
attribute [local irreducible] W WO pt
set_option maxRecDepth 10000
structure HV (sp st:Int) (rows:List (List (Int × Int))):Prop where
 n:2≤rows.length∧rows.length≤10
 m:2≤(rows.getD 0 []).length∧(rows.getD 0 []).length≤6
 eq:∀ i,i<rows.length→(rows.getD i []).length=(rows.getD 0 []).length
 sp:1≤sp∧sp≤1000
 st:1≤st∧st≤100
 ok:∀ i k,i<rows.length→k<(rows.getD i []).length→0≤((rows.getD i []).getD k (0,0)).1∧((rows.getD i []).getD k (0,0)).1≤((rows.getD i []).getD k (0,0)).2∧((rows.getD i []).getD k (0,0)).2≤500∧((rows.getD i []).getD k (0,0)).2-((rows.getD i []).getD k (0,0)).1≤20
 pos:∃ i k,i<rows.length∧k<(rows.getD i []).length∧0<((rows.getD i []).getD k (0,0)).1
theorem mem_getD {α:Type} {l:List α} {x:α} (z:α) (h:x∈l):∃ i,i<l.length∧l.getD i z=x:=by
 obtain ⟨i,hi,e⟩:=List.mem_iff_getElem.1 h
 exact ⟨i,hi,by simp [hi,e]⟩
theorem HV.of {sp st:Int} {rows:List (List (Int × Int))} (h:chkHull sp st rows=0):HV sp st rows:=by
 unfold chkHull at h
 split at h;· omega
 split at h;· omega
 split at h;· omega
 split at h;· omega
 split at h;· omega
 rename_i h1 h2 h3 h4 h5
 have h2':=Decidable.not_not.1 h2
 have h4':=Decidable.not_not.1 h4
 have h5':=Decidable.not_not.1 h5
 refine ⟨by omega,by omega,fun i hi=>h2' _ (getD_mem hi []),by omega,by omega,fun i k hi hk=>?_,?_⟩
 ·have:=h4' _ (getD_mem hi []) _ (getD_mem hk (0,0))
  simpa only [okR,decide_eq_true_eq] using this
 ·obtain ⟨r,hr,x,hx,hp⟩:=h5'
  obtain ⟨i,hi,rfl⟩:=mem_getD [] hr
  obtain ⟨k,hk,rfl⟩:=mem_getD (0,0) hx
  exact ⟨i,k,hi,hk,by simpa only [posR,decide_eq_true_eq] using hp⟩
theorem HV.to {sp st:Int} {rows:List (List (Int × Int))} (h:HV sp st rows):chkHull sp st rows=0:=by
 have h0:=h.n;have h1:=h.m;have h2:=h.sp;have h3:=h.st
 refine (ck0 (by omega) (fun r hr=>?_) (by omega) (fun r hr x hx=>?_) ?_).symm
 ·obtain ⟨i,hi,rfl⟩:=mem_getD [] hr
  exact h.eq i hi
 ·obtain ⟨i,hi,rfl⟩:=mem_getD [] hr
  obtain ⟨k,hk,rfl⟩:=mem_getD (0,0) hx
  simpa only [okR,decide_eq_true_eq] using h.ok i k hi hk
 ·obtain ⟨i,k,hi,hk,hp⟩:=h.pos
  exact ⟨_,getD_mem hi [],_,getD_mem hk (0,0),by simpa only [posR,decide_eq_true_eq] using hp⟩
structure TV (rows:List (List (Int × Int))) (ys:List (List Int)):Prop where
 len:ys.length=rows.length
 row:∀ i,i<ys.length→(ys.getD i []).length=(rows.getD i []).length
 within:∀ i k,i<ys.length→k<(ys.getD i []).length→((rows.getD i []).getD k (0,0)).1≤yy ys i k∧yy ys i k≤((rows.getD i []).getD k (0,0)).2
theorem TV.of {sp st:Int} {rows:List (List (Int × Int))} {ys:List (List Int)} (h:chkTrue sp st rows ys=0):HV sp st rows∧TV rows ys:=by
 unfold chkTrue at h
 split at h
 ·rename_i h1;exact absurd h h1
 split at h;· omega
 split at h;· omega
 split at h;· omega
 rename_i h1 h2 h3 h4
 exact ⟨HV.of (Decidable.not_not.1 h1),Decidable.not_not.1 h2,Decidable.not_not.1 h3,fun i k hi hk=>Decidable.not_not.1 h4 i hi k hk⟩
theorem TV.to {sp st:Int} {rows:List (List (Int × Int))} {ys:List (List Int)} (h:HV sp st rows) (t:TV rows ys):chkTrue sp st rows ys=0 :=
 (ct5 (by simpa using h.to) t.len t.row (fun i hi k hk=>t.within i k hi hk)).symm
theorem TV.small {sp st:Int} {rows:List (List (Int × Int))} {ys:List (List Int)} (h:HV sp st rows) (t:TV rows ys):Small ys:=by
 have hl:=t.len
 refine ⟨by have:=h.n;omega,fun i hi=>?_,fun i k hi hk=>?_⟩
 ·rw [t.row i hi,h.eq i (by omega)];have:=h.m;omega
 ·have h1:=t.within i k hi hk
  have h2:=h.ok i k (by omega) (by rw [← t.row i hi];exact hk)
  omega
theorem ps_pos {f:Nat→Int}:∀ {k:Nat},(∀ j,j<k→0≤f j)→∀ i,i<k→f i≤ps f k
 | 0,_,i,hi=>by omega
 | k+1,h,i,hi=>by
  simp only [ps]
  rcases Nat.lt_or_ge i k with h1 | h1
  ·have:=ps_pos (k:=k) (fun j hj=>h j (by omega)) i h1
   have:=h k (by omega)
   omega
  ·obtain rfl:i=k:=by omega
   have:0≤ps f i:=by
    clear hi h1
    induction i with
    | zero=>simp [ps]
    | succ i ih=>simp only [ps];have:=ih (fun j hj=>h j (by omega));have:=h i (by omega);omega
   omega
theorem wgt_pos (i n:Nat):1≤wgt i n:=by unfold wgt;split <;> omega
theorem TV.pos {sp st:Int} {rows:List (List (Int × Int))} {ys:List (List Int)} (h:HV sp st rows) (t:TV rows ys):0<sAll ys ys.length:=by
 have hs:=t.small h
 obtain ⟨i,k,hi,hk,hp⟩:=h.pos
 have hl:=t.len
 have hr:=t.row i (by omega)
 have h1:=t.within i k (by omega) (by omega)
 have h2:xw ys i k≤ps (fun k=>xw ys i k) (ys.getD i []).length:=ps_pos (fun j hj=>(hs.xw (by omega) hj).1) k (by omega)
 have h3:ps (fun k=>xw ys i k) (ys.getD i []).length≤sAll ys ys.length:=ps_pos (f:=fun i=>ps (fun k=>xw ys i k) (ys.getD i []).length) (fun j hj=>(hs.rowp (c:=fun i k=>xw ys i k) (B:=2000) (by omega) (fun i k hi hk=>hs.xw hi hk) hj (Nat.le_refl _)).1) i (by omega)
 have h4:1*1*1≤xw ys i k:=by
  unfold xw
  have a:=wgt_pos i ys.length
  have b:=wgt_pos k (ys.getD i []).length
  exact Int.mul_le_mul (Int.mul_le_mul a b (by omega) (by omega)) (by omega) (by omega) (Int.mul_nonneg (by omega) (by omega))
 omega
def tN (sp st:Int) (ys:List (List Int)) (what:Int):Int :=
 if what=0 then sp*sAlong ys ys.length else if what=1 then st*sAbove ys ys.length else 3*st*st*sAbove ys ys.length+2*sCubes ys ys.length
def tD (st:Int) (ys:List (List Int)) (what:Int):Int:=if what=0 then sAll ys ys.length else if what=1 then sAll ys ys.length else 3*st*sAll ys ys.length
def valQ (sp st:Int) (ys:List (List Int)) (what:Int):Int × Int:=red (tN sp st ys what) (tD st ys what)
def volQ (sp st:Int) (ys:List (List Int)):Int × Int:=red (sp*st*sAll ys ys.length) 2
def volV (sp st:Int) (rows:List (List (Int × Int))) (ys:List (List Int)):Int × Int:=if chkTrue sp st rows ys=0 then volQ sp st ys else (0,0)
def valE (sp st:Int) (rows:List (List (Int × Int))) (ys:List (List Int)) (what:Int):Int:=if chkTrue sp st rows ys=0 then (if what<0∨2<what then 3 else 0) else chkTrue sp st rows ys
def valV (sp st:Int) (rows:List (List (Int × Int))) (ys:List (List Int)) (what:Int):Int × Int:=if valE sp st rows ys what=0 then valQ sp st ys what else (0,0)
section
variable {sp st:Int} {rows:List (List (Int × Int))} {ys:List (List Int)} {what:Int}
end
end Go.Proofs.YtncjabmlkgacdaaGreat.Bx
namespace Go.Proofs.YtncjabmlkgacdaaGreat.Bx
open Go Go.TH
attribute [local irreducible] W WO pt
set_option maxRecDepth 10000
/-- what Volumes answers -/
def volLo (sp st:Int) (rows:List (List (Int × Int))) (high:Bool):Int × Int:=if chkHull sp st rows=0 then volV sp st rows (endsOf high rows) else (0,0)
def volsR (sp st:Int) (rows:List (List (Int × Int))):Value:=.tuple #[.agg (encP (volLo sp st rows false)++encP (volLo sp st rows true)).toArray,.int .i64 (chkHull sp st rows)]
theorem volsR_0 {sp st:Int} {rows:List (List (Int × Int))} (h:chkHull sp st rows=0):.tuple #[.agg (encP (volV sp st rows (endsOf false rows))++encP (volV sp st rows (endsOf true rows))).toArray,.int .i64 0]=volsR sp st rows:=by
  unfold volsR volLo;rw [if_pos h,if_pos h,h]
theorem volsR_1 {sp st:Int} {rows:List (List (Int × Int))} (h:chkHull sp st rows≠0):.tuple #[.agg (encP (0,0)++encP (0,0)).toArray,.int .i64 (chkHull sp st rows)]=volsR sp st rows:=by
  unfold volsR volLo;rw [if_neg h,if_neg h]
theorem HV.small {sp st:Int} {rows:List (List (Int × Int))} (h:HV sp st rows):rows.length≤1000∧∀ r∈rows,r.length≤1000:=by
  have h1:=h.n;have h2:=h.m
  refine ⟨by omega,fun r hr=>?_⟩
  obtain ⟨i,hi,rfl⟩:=mem_getD [] hr
  rw [h.eq i hi];omega
end Go.Proofs.YtncjabmlkgacdaaGreat.Bx
namespace Go.Proofs.YtncjabmlkgacdaaGreat.Bx
open Go Go.TH
attribute [local irreducible] W WO pt
set_option maxRecDepth 10000
theorem foldl_take {α β:Type} (f:β→α→β) {l:List α} {i:Nat} (h:i<l.length) (z:α) (b:β):(l.take (i+1)).foldl f b=f ((l.take i).foldl f b) (l.getD i z):=by
  rw [take_succ_getD h z,List.foldl_append];rfl
end Go.Proofs.YtncjabmlkgacdaaGreat.Bx
namespace Go.Proofs.YtncjabmlkgacdaaGreat.Bx
open Go Go.TH
attribute [local irreducible] W WO pt
set_option maxRecDepth 10000
set_option maxHeartbeats 4000000
/-- what an offset y adds above, and below; i of n, k of m -/
def tA (what sp st:Int) (n m i k:Nat) (y:Int):Int :=
  if what=2 then 3*st*st*k*(wgt i n*wgt k m)*y+(if k+1=m then 2*wgt i n*y*y*y else 0)
  else if what=1 then st*k*(wgt i n*wgt k m)*y else sp*i*(wgt i n*wgt k m)*y
def tB (what st:Int) (n m i k:Nat) (y:Int):Int:=if what=2 then 3*st*(wgt i n*wgt k m)*y else wgt i n*wgt k m*y
def exT (what sp st num den:Int) (n m i k:Nat) (y:Int):Int:=den*tA what sp st n m i k y-num*tB what st n m i k y
/-- the greatest, or least, of f lo, .., f (lo + j) -/
def bestV (f:Int→Int) (high:Bool) (lo:Int):Nat→Int
  | 0=>f lo
  | j+1=>if (high=true∧bestV f high lo j<f (lo+(j+1:Nat)))∨(high=false∧f (lo+(j+1:Nat))<bestV f high lo j) then f (lo+(j+1:Nat)) else bestV f high lo j
theorem bestV_in {f:Int→Int} {high:Bool} {lo A B:Int}:∀ {j:Nat},(∀ y,lo≤y→y≤lo+j→A≤f y∧f y≤B)→A≤bestV f high lo j∧bestV f high lo j≤B
  | 0,h=>h lo (by omega) (by omega)
  | j+1,h=>by
    have h1:=bestV_in (f:=f) (high:=high) (lo:=lo) (A:=A) (B:=B) (j:=j) (fun y a b=>h y a (by omega))
    have h2:=h (lo+(j+1:Nat)) (by omega) (by omega)
    simp only [bestV]
    split <;> assumption
@[reducible] def lo0 (rows:List (List (Int × Int))) (i k:Nat):Int:=((rows.getD i []).getD k (0,0)).1
@[reducible] def hi0 (rows:List (List (Int × Int))) (i k:Nat):Int:=((rows.getD i []).getD k (0,0)).2
/-- the best at one place -/
def best1 (what sp st num den:Int) (high:Bool) (rows:List (List (Int × Int))) (i k:Nat):Int :=
  bestV (exT what sp st num den rows.length (rows.getD i []).length i k) high (lo0 rows i k) (hi0 rows i k-lo0 rows i k).toNat
theorem ps_boundZ {f:Nat→Int} {A B:Int}:∀ {k:Nat},(∀ j,j<k → -A≤f j∧f j≤B) → -(k*A)≤ps f k∧ps f k≤k*B
  | 0,_=>by simp [ps]
  | k+1,h=>by
    have h1:=ps_boundZ (A:=A) (B:=B) (k:=k) (fun j hj=>h j (by omega))
    have h2:=h k (by omega)
    have e:((k+1:Nat):Int)*B=k*B+B:=by rw [Int.natCast_add,Int.add_mul];simp
    have e':((k+1:Nat):Int)*A=k*A+A:=by rw [Int.natCast_add,Int.add_mul];simp
    simp only [ps]
    omega
/-- all that has to fit, of one offset -/
structure TF (sp st num den:Int) (n m i k:Nat) (y:Int):Prop where
  a1:0≤sp*i∧sp*i≤9000
  w:0≤wgt i n*wgt k m∧wgt i n*wgt k m≤4
  a2:0≤sp*i*(wgt i n*wgt k m)∧sp*i*(wgt i n*wgt k m)≤36000
  a3:0≤sp*i*(wgt i n*wgt k m)*y∧sp*i*(wgt i n*wgt k m)*y≤18000000
  b1:0≤wgt i n*wgt k m*y∧wgt i n*wgt k m*y≤2000
  c1:0≤st*k∧st*k≤500
  c2:0≤st*k*(wgt i n*wgt k m)∧st*k*(wgt i n*wgt k m)≤2000
  c3:0≤st*k*(wgt i n*wgt k m)*y∧st*k*(wgt i n*wgt k m)*y≤1000000
  d1:0≤3*st*st∧3*st*st≤30000
  d2:0≤3*st*st*k∧3*st*st*k≤150000
  d3:0≤3*st*st*k*(wgt i n*wgt k m)∧3*st*st*k*(wgt i n*wgt k m)≤600000
  d4:0≤3*st*st*k*(wgt i n*wgt k m)*y∧3*st*st*k*(wgt i n*wgt k m)*y≤300000000
  e1:0≤3*st*(wgt i n*wgt k m)∧3*st*(wgt i n*wgt k m)≤1200
  e2:0≤3*st*(wgt i n*wgt k m)*y∧3*st*(wgt i n*wgt k m)*y≤600000
  w2:0≤wgt i n∧wgt i n≤2
  g1:0≤2*wgt i n*y∧2*wgt i n*y≤2000
  g2:0≤2*wgt i n*y*y∧2*wgt i n*y*y≤1000000
  g3:0≤2*wgt i n*y*y*y∧2*wgt i n*y*y*y≤500000000
theorem TF.of {sp st num den:Int} {n m i k:Nat} {y:Int} (hsp:1≤sp∧sp≤1000) (hst:1≤st∧st≤100) (hi:i≤9) (hk:k≤5) (hy:0≤y∧y≤500):TF sp st num den n m i k y:=by
  have hs:0≤sp∧sp≤1000:=by omega
  have ht:0≤st∧st≤100:=by omega
  have hi':0≤(i:Int)∧(i:Int)≤9:=by omega
  have hk':0≤(k:Int)∧(k:Int)≤5:=by omega
  have w:=mulB (wgtB i n) (wgtB k m)
  have h3:0≤3*st∧3*st≤300:=by omega
  have h2:0≤2*wgt i n∧2*wgt i n≤4:=by have:=wgtB i n;omega
  have a1:=mulB hs hi'
  have a2:=mulB a1 w
  have a3:=mulB a2 hy
  have b1:=mulB w hy
  have c1:=mulB ht hk'
  have c2:=mulB c1 w
  have c3:=mulB c2 hy
  have d1:=mulB h3 ht
  have d2:=mulB d1 hk'
  have d3:=mulB d2 w
  have d4:=mulB d3 hy
  have e1:=mulB h3 w
  have e2:=mulB e1 hy
  have g1:=mulB h2 hy
  have g2:=mulB g1 hy
  have g3:=mulB g2 hy
  exact ⟨by omega,by omega,by omega,by omega,by omega,by omega,by omega,by omega,by omega,by omega,by omega,by omega,by omega,by omega,wgtB i n,by omega,by omega,by omega⟩
theorem TF.ab {sp st num den:Int} {n m i k:Nat} {y:Int} (h:TF sp st num den n m i k y) (what:Int):(0≤tA what sp st n m i k y∧tA what sp st n m i k y≤800000000)∧0≤tB what st n m i k y∧tB what st n m i k y≤600000:=by
  have h1:=h.a3;have h2:=h.c3;have h3:=h.d4;have h4:=h.g3;have h5:=h.e2;have h6:=h.b1
  unfold tA tB
  refine ⟨?_,?_⟩
  · split
    · split <;> omega
    · split <;> omega
  · split <;> omega
/-- what is a bound -/
def Bd (num den:Int):Prop:=0≤num∧num≤100000000000∧1≤den∧den≤100000000
theorem TF.ex {sp st num den:Int} {n m i k:Nat} {y:Int} (h:TF sp st num den n m i k y) (hb:Bd num den) (what:Int):(0≤den*tA what sp st n m i k y∧den*tA what sp st n m i k y≤80000000000000000)∧(0≤num*tB what st n m i k y∧num*tB what st n m i k y≤60000000000000000) ∧ -60000000000000000≤exT what sp st num den n m i k y∧exT what sp st num den n m i k y≤80000000000000000:=by
  obtain ⟨h1,h2⟩:=h.ab what
  obtain ⟨b1,b2,b3,b4⟩:=hb
  have m1:=mulB (a:=den) (A:=100000000) ⟨by omega,b4⟩ h1
  have m2:=mulB ⟨b1,b2⟩ h2
  unfold exT
  omega
section
variable {sp st num den:Int} {rows:List (List (Int × Int))} {i k:Nat} {y:Int}
theorem HV.tf (hv:HV sp st rows) (hi:i<rows.length) (hk:k<(rows.getD i []).length) (hy:lo0 rows i k≤y∧y≤hi0 rows i k):TF sp st num den rows.length (rows.getD i []).length i k y:=by
  have h1:=hv.ok i k hi hk
  have h2:=hv.n;have h3:=hv.m;have h4:=hv.eq i hi
  unfold lo0 hi0 at hy
  exact TF.of hv.sp hv.st (by omega) (by omega) (by omega)
theorem HV.best1 (hv:HV sp st rows) (hb:Bd num den) (what:Int) (high:Bool) (hi:i<rows.length) (hk:k<(rows.getD i []).length) : -60000000000000000≤Bx.best1 what sp st num den high rows i k∧Bx.best1 what sp st num den high rows i k≤80000000000000000:=by
  have h1:=hv.ok i k hi hk
  refine bestV_in fun y h2 h3=>((hv.tf hi hk (y:=y) ?_).ex hb what).2.2
  unfold lo0 hi0 at *
  omega
theorem HV.rowS (hv:HV sp st rows) (hb:Bd num den) (what:Int) (high:Bool) (hi:i<rows.length) (hk:k≤(rows.getD i []).length) : -360000000000000000≤ps (fun k=>Bx.best1 what sp st num den high rows i k) k∧ps (fun k=>Bx.best1 what sp st num den high rows i k) k≤480000000000000000:=by
  have h1:=ps_boundZ (f:=fun k=>Bx.best1 what sp st num den high rows i k) (k:=k) (fun j hj=>hv.best1 hb what high hi (by omega))
  have h2:=hv.m;have h3:=hv.eq i hi
  omega
end
section
variable {what sp st num den:Int} {n m i k:Nat} {y b x lo:Int} {high:Bool} {f:Int→Int}
end
end Go.Proofs.YtncjabmlkgacdaaGreat.Bx
namespace Go.Proofs.YtncjabmlkgacdaaGreat.Bx
open Go Go.TH
attribute [local irreducible] W WO pt
set_option maxRecDepth 10000
section
variable {sp st what num den:Int} {high:Bool} {rows:List (List (Int × Int))}
end
end Go.Proofs.YtncjabmlkgacdaaGreat.Bx
namespace Go.Proofs.YtncjabmlkgacdaaGreat.Bx
open Go Go.TH
attribute [local irreducible] W WO pt
set_option maxRecDepth 10000
set_option maxHeartbeats 1000000
def minL:List Int→Int
 | []=>0
 | x::r=>r.foldl min x
def maxL:List Int→Int
 | []=>0
 | x::r=>r.foldl max x
theorem minL_succ {xs:List Int} {i:Nat} (h:i<xs.length) (h1:1≤i):minL (xs.take (i+1))=min (minL (xs.take i)) (xs.getD i 0):=by
 cases xs with
 | nil=>simp at h
 | cons x r =>
  obtain ⟨j,rfl⟩:∃ j,i=j+1:=⟨i-1,by omega⟩
  simp only [List.take_succ_cons,minL]
  rw [foldl_take _ (by simpa using h) 0];simp
theorem maxL_succ {xs:List Int} {i:Nat} (h:i<xs.length) (h1:1≤i):maxL (xs.take (i+1))=max (maxL (xs.take i)) (xs.getD i 0):=by
 cases xs with
 | nil=>simp at h
 | cons x r =>
  obtain ⟨j,rfl⟩:∃ j,i=j+1:=⟨i-1,by omega⟩
  simp only [List.take_succ_cons,maxL]
  rw [foldl_take _ (by simpa using h) 0];simp
theorem minL_one {xs:List Int} (h:0<xs.length):minL (xs.take 1)=xs.getD 0 0:=by
 cases xs with
 | nil=>simp at h
 | cons x r=>simp [minL]
theorem maxL_one {xs:List Int} (h:0<xs.length):maxL (xs.take 1)=xs.getD 0 0:=by
 cases xs with
 | nil=>simp at h
 | cons x r=>simp [maxL]
theorem c_Min (w:World) (o:Value) (xs:List Int) (hR:RdF encI 1 w.heap.size w o xs) (hn:0<xs.length):Ret Tryz.prog 144 [o].toArray w (.int .i64 (minL xs)):=by
 refine Ret.of mixed tyTab Tryz.func144 rfl rfl ?_
 replace hR:RdF encI 1 (fnCx mixed tyTab Tryz.f144.ntmps w).B (fnCx mixed tyTab Tryz.f144.ntmps w).w0 o xs:=hR
 have hle:=hR.sl.le
 refine W.sreg (WO.p rfl rfl (WO.nil (W.seq (W.sreg (WO.p rfl rfl (WO.len rfl rfl hR.sl rfl (WO.p rfl rfl (WO.nil ?_))))))))
 refine W.cond_bl rfl (fun c1=>?_) (fun c1=>?_)
 ·exfalso;omega
 ·refine W.skip (W.sreg (WO.p rfl rfl (WO.indexAddr (i:=0) rfl rfl rfl hR.sl (by omega) rfl ?_)))
  refine' WO.load (v:=_) rfl rfl ?hc rfl ?_
  case hc=>(first | (refine hR.cell0 ?_ 0 ?_ <;> first | rfl | omega))
  refine WO.p rfl rfl (WO.nil (W.seq (W.sreg (WO.p rfl rfl (WO.nil (W.block ?_))))))
  refine W.loop2 (fun (i:Nat) (m:Int)=>1≤i∧i≤xs.length∧m=minL (xs.take i))
   (fun (i:Nat) (m:Int)=>[(4,.int .i64 (i:Int)),(3,.int .i64 m),(0,o)])
   (fun (i:Nat) (m:Int)=>[])
   (fun (i:Nat) (m:Int)=>xs.length-i) 1 (xs.getD 0 0)
   (by exact ⟨by omega,by omega,(minL_one hn).symm⟩) ⟨rfl,rfl,rfl,trivial⟩ (by repeat (first | exact Sub.nil | refine Sub.cons (by repeat first | exact .head | apply Pick.tail) ?_)) ?_
  rintro i m ⟨h1,hi,em⟩
  refine W.seq (W.sreg (WO.p rfl rfl (WO.p rfl rfl (WO.len rfl rfl hR.sl rfl (WO.p rfl rfl (WO.nil ?_))))))
  refine W.cond_bl rfl (fun c3=>?_) (fun c3=>?_)
  ·refine W.skip (W.seq (W.block (W.region (WO.p rfl rfl (WO.p rfl rfl (WO.p rfl rfl (WO.indexAddr rfl rfl rfl hR.sl (by omega) rfl ?_)))))))
   refine' WO.load (v:=_) rfl rfl ?hc rfl ?_
   case hc=>(first | (refine hR.cell0 ?_ 0 ?_ <;> first | rfl | omega))
   refine WO.min2 rfl rfl rfl (WO.p rfl rfl (WO.nil (W.region (WO.p rfl rfl (WO.ar rfl rfl rfl (by (first | (unfold in64;omega))) rfl (WO.p rfl rfl (WO.nil ?_)))))))
   refine' ⟨i+1,_,?hp,?hmu,⟨rfl,rfl,rfl,trivial⟩,?hS⟩
   case hS=>repeat (first | exact Sub.nil | refine Sub.cons (by repeat first | exact .head | apply Pick.tail) ?_)
   case hp=>exact ⟨by omega,by omega,by rw [minL_succ (by omega) h1,em]⟩
   case hmu=>omega
  ·refine W.exit (blk_same (W.sreg (WO.p rfl rfl (WO.p rfl rfl (WO.nil (W.ret ?_))))))
   obtain rfl:i=xs.length:=by omega
   refine fin.ret (Res.one rfl (RV.tmp rfl)) ?_
   rw [em,List.take_length]
theorem c_Max (w:World) (o:Value) (xs:List Int) (hR:RdF encI 1 w.heap.size w o xs) (hn:0<xs.length):Ret Tryz.prog 145 [o].toArray w (.int .i64 (maxL xs)):=by
 refine Ret.of mixed tyTab Tryz.func145 rfl rfl ?_
 replace hR:RdF encI 1 (fnCx mixed tyTab Tryz.f145.ntmps w).B (fnCx mixed tyTab Tryz.f145.ntmps w).w0 o xs:=hR
 have hle:=hR.sl.le
 refine W.sreg (WO.p rfl rfl (WO.nil (W.seq (W.sreg (WO.p rfl rfl (WO.len rfl rfl hR.sl rfl (WO.p rfl rfl (WO.nil ?_))))))))
 refine W.cond_bl rfl (fun c1=>?_) (fun c1=>?_)
 ·exfalso;omega
 ·refine W.skip (W.sreg (WO.p rfl rfl (WO.indexAddr (i:=0) rfl rfl rfl hR.sl (by omega) rfl ?_)))
  refine' WO.load (v:=_) rfl rfl ?hc rfl ?_
  case hc=>(first | (refine hR.cell0 ?_ 0 ?_ <;> first | rfl | omega))
  refine WO.p rfl rfl (WO.nil (W.seq (W.sreg (WO.p rfl rfl (WO.nil (W.block ?_))))))
  refine W.loop2 (fun (i:Nat) (m:Int)=>1≤i∧i≤xs.length∧m=maxL (xs.take i))
   (fun (i:Nat) (m:Int)=>[(4,.int .i64 (i:Int)),(3,.int .i64 m),(0,o)])
   (fun (i:Nat) (m:Int)=>[])
   (fun (i:Nat) (m:Int)=>xs.length-i) 1 (xs.getD 0 0)
   (by exact ⟨by omega,by omega,(maxL_one hn).symm⟩) ⟨rfl,rfl,rfl,trivial⟩ (by repeat (first | exact Sub.nil | refine Sub.cons (by repeat first | exact .head | apply Pick.tail) ?_)) ?_
  rintro i m ⟨h1,hi,em⟩
  refine W.seq (W.sreg (WO.p rfl rfl (WO.p rfl rfl (WO.len rfl rfl hR.sl rfl (WO.p rfl rfl (WO.nil ?_))))))
  refine W.cond_bl rfl (fun c3=>?_) (fun c3=>?_)
  ·refine W.skip (W.seq (W.block (W.region (WO.p rfl rfl (WO.p rfl rfl (WO.p rfl rfl (WO.indexAddr rfl rfl rfl hR.sl (by omega) rfl ?_)))))))
   refine' WO.load (v:=_) rfl rfl ?hc rfl ?_
   case hc=>(first | (refine hR.cell0 ?_ 0 ?_ <;> first | rfl | omega))
   refine WO.max2 rfl rfl rfl (WO.p rfl rfl (WO.nil (W.region (WO.p rfl rfl (WO.ar rfl rfl rfl (by (first | (unfold in64;omega))) rfl (WO.p rfl rfl (WO.nil ?_)))))))
   refine' ⟨i+1,_,?hp,?hmu,⟨rfl,rfl,rfl,trivial⟩,?hS⟩
   case hS=>repeat (first | exact Sub.nil | refine Sub.cons (by repeat first | exact .head | apply Pick.tail) ?_)
   case hp=>exact ⟨by omega,by omega,by rw [maxL_succ (by omega) h1,em]⟩
   case hmu=>omega
  ·refine W.exit (blk_same (W.sreg (WO.p rfl rfl (WO.p rfl rfl (WO.nil (W.ret ?_))))))
   obtain rfl:i=xs.length:=by omega
   refine fin.ret (Res.one rfl (RV.tmp rfl)) ?_
   rw [em,List.take_length]
def btw (lo hi:Int) (xs:List Int):Bool:=bl (lo≤minL xs)&&bl (maxL xs≤hi)
theorem c_between (w:World) (lo hi:Int) (o:Value) (xs:List Int) (hR:RdF encI 1 w.heap.size w o xs) (hn:0<xs.length):Ret Tryz.prog 117 [.int .i64 lo,.int .i64 hi,o].toArray w (.bool (btw lo hi xs)):=by
 refine Ret.of mixed tyTab Tryz.func117 rfl rfl ?_
 replace hR:RdF encI 1 (fnCx mixed tyTab Tryz.f117.ntmps w).B (fnCx mixed tyTab Tryz.f117.ntmps w).w0 o xs:=hR
 refine W.sreg (WO.p rfl rfl (WO.nil (W.sreg (WO.p rfl rfl (WO.callR rfl Tryz.call144 (fun L w hi=>c_Min w o xs (hR.later hi) hn) rfl (WO.p rfl rfl (WO.p rfl rfl (WO.p rfl rfl ?_))))))))
 refine WO.guard_bl rfl rfl (fun c1=>?_) (fun c1=>?_)
 ·refine WO.pg rfl rfl rfl (WO.go' rfl (WO.callR rfl Tryz.call145 (fun L w hi=>c_Max w o xs (hR.later hi) hn) rfl (WO.pg rfl rfl rfl (WO.pg rfl rfl rfl (WO.p rfl rfl (WO.p rfl rfl (WO.nil (W.ret (fin.ret (Res.one rfl (RV.tmp rfl)) (congrArg Value.bool ?_))))))))))
  (simp_all [btw,bl_eq];done)
 ·refine WO.no rfl rfl (WO.no rfl rfl (WO.no rfl rfl (WO.no rfl rfl (WO.p rfl rfl (WO.p rfl rfl (WO.nil (W.ret (fin.ret (Res.one rfl (RV.tmp rfl)) (congrArg Value.bool ?_)))))))))
  (simp_all [btw,bl_eq];omega)
theorem btw1 (lo hi x:Int):btw lo hi [x]=bl (lo≤x∧x≤hi):=by
 unfold btw;rw [bl_eq,bl_eq,bl_eq]
 show (decide (lo≤x)&&decide (x≤hi))=_
 simp
theorem btw2 (lo hi x y:Int):btw lo hi [x,y]=bl (lo≤x∧x≤hi∧lo≤y∧y≤hi):=by
 unfold btw;rw [bl_eq,bl_eq,bl_eq]
 show (decide (lo≤min x y)&&decide (max x y≤hi))=_
 rw [← Bool.decide_and,decide_eq_decide]
 omega
theorem c_hull1 (w:World) (o:Value) (xs:List (Int × Int)) (p:Addr) (m:Int) (hR:RdF encP 2 w.heap.size w o xs) (hc:Cap w p (.int .i64 m)):Ret Tryz.prog 116 [o,.pointer (some p)].toArray w (.bool (bl ((xs.length:Int)≠m))):=by
 refine Ret.of mixed tyTab Tryz.func116 rfl rfl ?_
 replace hR:RdF encP 2 (fnCx mixed tyTab Tryz.f116.ntmps w).B (fnCx mixed tyTab Tryz.f116.ntmps w).w0 o xs:=hR
 replace hc:Cap (fnCx mixed tyTab Tryz.f116.ntmps w).w0 p (.int .i64 m):=hc
 refine W.sreg (WO.p rfl rfl (WO.nil (W.sreg (WO.p rfl rfl (WO.len rfl rfl hR.sl rfl ?_)))))
 refine' WO.load (v:=_) rfl rfl ?hc rfl ?_
 case hc=>(refine Cap.cell (v:=.int .i64 m) rfl hc)
 refine WO.p rfl rfl (WO.p rfl rfl (WO.nil (W.ret ?_)))
 exact fin.ret (Res.one rfl (RV.tmp rfl)) rfl
theorem row_later {α:Type} {P:Program} {C:Cx P} {H L:List HP} {enc:α→List Value} {sz:Nat} {v:Value} {rv:List Value} {xss:List (List α)} {w:World} (h:RdR enc sz C.B C.w0 v rv xss) (hi:Inv C.w0 C.M (L++H) w) (i:Nat) (h1:i<xss.length):RdF enc sz w.heap.size w (rv.getD i undef) (xss.getD i []):=(h.row i h1).later hi
theorem c_IndexFunc (w:World) (o:Value) (rv:List Value) (rows:List (List (Int × Int))) (p:Addr) (m:Int) (hR:RdR encP 2 w.heap.size w o rv rows) (hc:Cap w p (.int .i64 m)):RetE Tryz.prog 186 [o,.func (.func 116) #[] #[.pointer (some p)]].toArray w (fun v=>∃ n:Int,v=.int .i64 n∧(0≤n↔¬ ∀ r∈rows,(r.length:Int)=m)):=by
 refine RetE.of mixed tyTab Tryz.func186 rfl rfl ?_
 replace hR:RdR encP 2 (fnCx mixed tyTab Tryz.f186.ntmps w).B (fnCx mixed tyTab Tryz.f186.ntmps w).w0 o rv rows:=hR
 replace hc:Cap (fnCx mixed tyTab Tryz.f186.ntmps w).w0 p (.int .i64 m):=hc
 have hle:=hR.sl.le
 refine W.sreg (WO.p rfl rfl (WO.nil (W.seq (W.sreg (WO.p rfl rfl (WO.len rfl rfl hR.sl rfl (WO.p rfl rfl (WO.nil (W.block ?_)))))))))
 refine W.loop (fun (i:Nat)=>i≤rows.length∧∀ r∈rows.take i,(r.length:Int)=m)
  (fun (i:Nat)=>[(8,.int .i64 (i:Int)),(7,.int .i64 (rows.length:Int)),(0,o),(1,.func (.func 116) #[] #[.pointer (some p)])])
  (fun (i:Nat)=>[])
  (fun (i:Nat)=>rows.length-i) 0
  (by exact ⟨by omega,by simp⟩) ⟨rfl,rfl,rfl,rfl,trivial⟩ (by repeat (first | exact Sub.nil | refine Sub.cons (by repeat first | exact .head | apply Pick.tail) ?_)) ?_
 rintro i ⟨hi,hal⟩
 refine W.sreg (WO.p rfl rfl (WO.nil (W.seq ?_)))
 refine W.cond_bl rfl (fun c1=>?_) (fun c1=>?_)
 ·refine W.skip (W.seq (W.block (W.sreg (WO.p rfl rfl (WO.p rfl rfl (WO.nil (W.sreg (WO.p rfl rfl (WO.p rfl rfl (WO.p rfl rfl (WO.indexAddr rfl rfl rfl hR.sl (by omega) rfl ?_)))))))))))
  refine' WO.load (v:=_) rfl rfl ?hc rfl ?_
  case hc=>((refine hR.cellV ?_;omega))
  refine WO.callCR (first:=[]) (captured:=[.pointer (some p)]) rfl rfl Tryz.call116 (fun L w hi=>c_hull1 w _ _ p m (row_later hR hi i (by omega)) (hc.old rfl hi)) rfl (WO.nil ?_)
  refine W.cond_bl rfl (fun c2=>?_) (fun c2=>?_)
  ·refine W.sreg (WO.p rfl rfl (WO.p rfl rfl (WO.nil (W.ret ?_))))
   exact fin.ret (Res.one rfl (RV.tmp rfl)) ⟨_,rfl,by exact ⟨fun _=>not_all_getD (i:=i) (by omega) [] (fun h=>by simp_all),fun _=>by omega⟩⟩
  ·refine W.skip (W.region (WO.ar rfl rfl rfl (by (first | (unfold in64;omega))) rfl (WO.p rfl rfl (WO.nil ?_))))
   refine' ⟨i+1,?hp,?hmu,⟨rfl,rfl,rfl,rfl,trivial⟩,?hS⟩
   case hS=>repeat (first | exact Sub.nil | refine Sub.cons (by repeat first | exact .head | apply Pick.tail) ?_)
   case hp=>exact ⟨by omega,all_succ (by omega) [] hal (by simp_all)⟩
   case hmu=>omega
 ·refine W.exit (blk_same (W.sreg (WO.p rfl rfl (WO.nil (W.ret ?_)))))
  exact fin.ret (Res.one rfl (RV.tmp rfl)) ⟨_,rfl,by exact ⟨fun h=>by omega,fun h=>absurd (all_len (by omega) hal) h⟩⟩
theorem c_ContainsFunc (w:World) (o:Value) (rv:List Value) (rows:List (List (Int × Int))) (p:Addr) (m:Int) (hR:RdR encP 2 w.heap.size w o rv rows) (hc:Cap w p (.int .i64 m)):Ret Tryz.prog 115 [o,.func (.func 116) #[] #[.pointer (some p)]].toArray w (.bool (bl (¬ ∀ r∈rows,(r.length:Int)=m))):=by
 refine Ret.of mixed tyTab Tryz.func115 rfl rfl ?_
 replace hR:RdR encP 2 (fnCx mixed tyTab Tryz.f115.ntmps w).B (fnCx mixed tyTab Tryz.f115.ntmps w).w0 o rv rows:=hR
 replace hc:Cap (fnCx mixed tyTab Tryz.f115.ntmps w).w0 p (.int .i64 m):=hc
 refine W.sreg (WO.p rfl rfl (WO.nil (W.sreg (WO.p rfl rfl (WO.p rfl rfl (WO.callE rfl Tryz.call186 (fun L w hi=>c_IndexFunc w o rv rows p m (hR.later hi) (hc.old rfl hi)) rfl ?_))))))
 rintro _ ⟨n,rfl,hn⟩
 refine WO.p rfl rfl (WO.p rfl rfl (WO.nil (W.ret (fin.ret (Res.one rfl (RV.tmp rfl)) (congrArg Value.bool ?_)))))
 rw [bl_eq,bl_eq];exact decide_eq_decide.2 hn
end Go.Proofs.YtncjabmlkgacdaaGreat.Bx
namespace Go.Proofs.YtncjabmlkgacdaaGreat.Bx
open Go Go.TH
attribute [local irreducible] W WO pt
set_option maxRecDepth 10000
set_option maxHeartbeats 1000000
theorem btw_one (w:World) (lo hi x:Int) (C:Cx Tryz.prog) {L H:List HP} {b:Nat} (hi':Inv C.w0 C.M (L++OwC 2 1 (.slice (some ⟨b,0,none⟩) 1 1) 1 [.int .i64 x]::H) w):Ret Tryz.prog 117 [.int .i64 lo,.int .i64 hi,.slice (some ⟨b,0,none⟩) 1 1].toArray w (.bool (bl (lo≤x∧x≤hi))):=by
 rw [← btw1]
 exact c_between w lo hi _ [x] (RdF.of_ow (C:=C) (enc:=encI) (e:=2) encI_ok (H:=OwE encI 2 1 (.slice (some ⟨b,0,none⟩) 1 1) [x]::H) .head hi') (by simp)
theorem btw_two (w:World) (lo hi x y:Int) (C:Cx Tryz.prog) {L H:List HP} {b:Nat} (hi':Inv C.w0 C.M (L++OwC 2 1 (.slice (some ⟨b,0,none⟩) 2 2) 2 [.int .i64 x,.int .i64 y]::H) w):Ret Tryz.prog 117 [.int .i64 lo,.int .i64 hi,.slice (some ⟨b,0,none⟩) 2 2].toArray w (.bool (bl (lo≤x∧x≤hi∧lo≤y∧y≤hi))):=by
 rw [← btw2]
 exact c_between w lo hi _ [x,y] (RdF.of_ow (C:=C) (enc:=encI) (e:=2) encI_ok (H:=OwE encI 2 1 (.slice (some ⟨b,0,none⟩) 2 2) [x,y]::H) .head hi') (by simp)
theorem all_succ_iff {α:Type} {p:α→Prop} {l:List α} {i:Nat} (h:i<l.length) (z:α):(∀ x∈l.take (i+1),p x)↔(∀ x∈l.take i,p x)∧p (l.getD i z):=by
 rw [take_succ_getD h z]
 constructor
 ·intro h1;exact ⟨fun x hx=>h1 x (by simp [hx]),h1 _ (by simp)⟩
 ·rintro ⟨h1,h2⟩ x hx
  rcases List.mem_append.1 hx with hx | hx
  ·exact h1 x hx
  ·rw [List.mem_singleton.1 hx];exact h2
section
variable {G:Prop} {g g' q:Bool} {l:List (Int × Int)} {k:Nat} {m m':Int}
theorem okStep (h:k<l.length) (hg':g'=true↔G∧∀ x∈l.take k,okR x=true) (hq:q=true↔g'=true∧okR (l.getD k (0,0))=true):q=true↔G∧∀ x∈l.take (k+1),okR x=true:=by
 rw [all_succ_iff h (0,0),hq,hg',and_assoc]
theorem q1 {X:Prop} (h:g'=false):false=true↔g'=true∧X:=by simp [h]
theorem q2 {r:Int × Int} (h:¬ (0≤r.1∧r.1≤500∧0≤r.2∧r.2≤500)):false=true↔g'=true∧okR r=true:=by
 simp only [okR,decide_eq_true_eq,Bool.false_eq_true,false_iff]
 rintro ⟨_,h2⟩
 omega
theorem q3 {r:Int × Int} (hg:g'=true) (h:0≤r.1∧r.1≤500∧0≤r.2∧r.2≤500):bl (0≤r.2-r.1∧r.2-r.1≤20)=true↔g'=true∧okR r=true:=by
 simp only [okR,decide_eq_true_eq,bl_t,hg,true_and]
 omega
theorem posStep {Q:Prop} (h:k<l.length) (h0:0≤m') (hm:0<m'↔Q∨∃ x∈l.take k,posR x=true):0<max m' (l.getD k (0,0)).1↔Q∨∃ x∈l.take (k+1),posR x=true:=by
 rw [ex_succ h (0,0),← or_assoc,← hm]
 simp only [posR,decide_eq_true_eq]
 omega
theorem rowStep {G:Prop} {rows:List (List (Int × Int))} {i:Nat} {j:Nat} (h:i<rows.length) (hj:(rows.getD i []).length≤j) (hg:g=true↔G∧∀ r∈rows.take i,∀ x∈r,okR x=true) (hg':g'=true↔g=true∧∀ x∈(rows.getD i []).take j,okR x=true):g'=true↔G∧∀ r∈rows.take (i+1),∀ x∈r,okR x=true:=by
 rw [all_succ_iff h [],hg',hg,List.take_of_length_le hj,and_assoc]
theorem rowStepM {rows:List (List (Int × Int))} {i:Nat} {j:Nat} (h:i<rows.length) (hj:(rows.getD i []).length≤j) (hm:0<m↔∃ r∈rows.take i,∃ x∈r,posR x=true) (hm':0<m'↔0<m∨∃ x∈(rows.getD i []).take j,posR x=true):0<m'↔∃ r∈rows.take (i+1),∃ x∈r,posR x=true:=by
 rw [ex_succ h [],hm',hm,List.take_of_length_le hj]
end
section
variable {sp st m:Int} {rows:List (List (Int × Int))} {g:Bool} {i:Nat}
theorem lenI {n:Nat} (h:∀ r∈rows,(r.length:Int)=n):∀ r∈rows,r.length=n:=fun r hr=>by have:=h r hr;omega
theorem fin2 (h:¬ (rows.length<2∨10<rows.length∨(rows.getD 0 []).length<2∨6<(rows.getD 0 []).length)) (h1:∀ r∈rows,r.length=(rows.getD 0 []).length) (hi:rows.length≤i)
 (hg:g=true↔(1≤sp∧sp≤1000∧1≤st∧st≤100)∧∀ r∈rows.take i,∀ x∈r,okR x=true) (h0:0≤m) (hm:0<m↔∃ r∈rows.take i,∃ x∈r,posR x=true) (hc:(!g)=true∨m=0):2=chkHull sp st rows:=by
 rw [List.take_of_length_le hi] at hg hm
 rw [chkHull,if_neg h,if_neg (fun x=>x h1)]
 split
 ·rfl
 split
 ·rfl
 split
 ·rfl
 rename_i a b c
 exfalso
 rcases hc with hc | hc
 ·have:g=true:=hg.2 ⟨by omega,Decidable.not_not.1 b⟩
  simp [this] at hc
 ·have:=hm.2 (Decidable.not_not.1 c);omega
theorem fin0 (h:¬ (rows.length<2∨10<rows.length∨(rows.getD 0 []).length<2∨6<(rows.getD 0 []).length)) (h1:∀ r∈rows,r.length=(rows.getD 0 []).length) (hi:rows.length≤i)
 (hg:g=true↔(1≤sp∧sp≤1000∧1≤st∧st≤100)∧∀ r∈rows.take i,∀ x∈r,okR x=true) (h0:0≤m) (hm:0<m↔∃ r∈rows.take i,∃ x∈r,posR x=true) (hc:(!g)=false) (hc':¬ m=0):0=chkHull sp st rows:=by
 rw [List.take_of_length_le hi] at hg hm
 have hg':=hg.1 (by simpa using hc)
 exact ck0 h h1 (by omega) hg'.2 (hm.1 (by omega))
end
theorem c_CheckHull (w:World) (sp st:Int) (o:Value) (rv:List Value) (rows:List (List (Int × Int))) (hR:RdR encP 2 w.heap.size w o rv rows) :
 Ret Tryz.prog 57 [.agg #[.int .i64 sp,.int .i64 st,o]].toArray w (.int .i64 (chkHull sp st rows)):=by
 refine Ret.of mixed tyTab Tryz.func57 rfl rfl ?_
 replace hR:RdR encP 2 (fnCx mixed tyTab Tryz.f57.ntmps w).B (fnCx mixed tyTab Tryz.f57.ntmps w).w0 o rv rows:=hR
 have hle:=hR.sl.le
 refine W.sreg (WO.boxA rfl rfl (fun b1 hb1=>(WO.p rfl rfl (WO.nil (W.seq (W.sreg (WO.fieldL rfl rfl rfl (WO.load rfl rfl (Cell.own Pick.head rfl) rfl ?_))))))))
 refine' WO.len (n:=_) rfl rfl ?hs rfl ?_
 case hs=>(exact hR.sl)
 refine WO.p rfl rfl (WO.p rfl rfl ?_)
 refine WO.guard_bl rfl rfl (fun c1=>?_) (fun c1=>?_)
 ·refine WO.no rfl rfl (WO.no rfl rfl (WO.no rfl rfl (WO.no rfl rfl (WO.p rfl rfl (WO.nil (W.cond_t rfl (W.sreg (WO.p rfl rfl (WO.nil (W.ret (fin.ret (Res.one rfl (RV.tmp rfl)) (congrArg (Value.int .i64) ?_))))))))))))
  exact ck6 (by omega)
 ·refine WO.go' rfl (WO.fieldL rfl rfl rfl (WO.go' rfl (WO.load rfl rfl (Cell.own Pick.head rfl) rfl (WO.go' rfl ?_))))
  refine' WO.len (n:=_) rfl rfl ?hs rfl ?_
  case hs=>(exact hR.sl)
  refine WO.pg rfl rfl rfl (WO.p rfl rfl (WO.nil ?_))
  refine W.cond_bl rfl (fun c2=>?_) (fun c2=>?_)
  ·refine W.sreg (WO.p rfl rfl (WO.nil (W.ret (fin.ret (Res.one rfl (RV.tmp rfl)) (congrArg (Value.int .i64) ?_)))))
   exact ck6 (by omega)
  ·refine W.skip (W.sreg (WO.fieldL rfl rfl rfl (WO.load rfl rfl (Cell.own Pick.head rfl) rfl ?_)))
   refine' WO.indexAddr (n:=_) (i:=0) rfl rfl rfl ?hs ?h1 rfl ?_
   case hs=>(exact hR.sl)
   case h1=>(omega)
   refine' WO.load (v:=_) rfl rfl ?hc rfl ?_
   case hc=>((refine hR.cellV ?_;omega))
   refine' WO.len (n:=_) rfl rfl ?hs rfl ?_
   case hs=>((refine (hR.row _ ?_).sl;omega))
   refine WO.alloc rfl rfl rfl (fun b2 hb2=>(WO.store1 rfl rfl rfl (by rfl) Pick.head rfl (WO.nil (W.seq (W.sreg (WO.load rfl rfl (Cell.own Pick.head rfl) rfl (WO.p rfl rfl (WO.p rfl rfl ?_))))))))
   refine WO.guard_bl rfl rfl (fun c3=>?_) (fun c3=>?_)
   ·refine WO.no rfl rfl (WO.no rfl rfl (WO.p rfl rfl (WO.nil (W.cond_t rfl (W.sreg (WO.p rfl rfl (WO.nil (W.ret (fin.ret (Res.one rfl (RV.tmp rfl)) (congrArg (Value.int .i64) ?_))))))))))
    exact ck6 (by omega)
   ·refine WO.go' rfl (WO.load rfl rfl (Cell.own Pick.head rfl) rfl (WO.pg rfl rfl rfl (WO.p rfl rfl (WO.nil ?_))))
    refine W.cond_bl rfl (fun c4=>?_) (fun c4=>?_)
    ·refine W.sreg (WO.p rfl rfl (WO.nil (W.ret (fin.ret (Res.one rfl (RV.tmp rfl)) (congrArg (Value.int .i64) ?_)))))
     exact ck6 (by omega)
    ·refine W.skip (W.seq (W.sreg (WO.fieldL rfl rfl rfl (WO.load rfl rfl (Cell.own (Pick.tail (Pick.head)) rfl) rfl (WO.p rfl rfl (WO.callR rfl Tryz.call115 (fun L w hi=>c_ContainsFunc w o rv rows _ ((rows.getD 0 []).length:Int) (hR.later hi) (Cap.of .head rfl hi)) rfl (WO.nil ?_)))))))
     refine W.cond_bl rfl (fun c5=>?_) (fun c5=>?_)
     ·refine W.sreg (WO.p rfl rfl (WO.nil (W.ret (fin.ret (Res.one rfl (RV.tmp rfl)) (congrArg (Value.int .i64) ?_)))))
      exact ck15 (by omega) (fun h=>absurd (fun r hr=>by have:=h r hr;omega) (by assumption))
     ·refine W.skip (W.sreg (WO.field0 rfl rfl rfl (WO.load rfl rfl (Cell.own (Pick.tail (Pick.head)) rfl) rfl (WO.buildSl rfl rfl rfl rfl rfl rfl rfl rfl rfl (fun v3=>(WO.callR rfl Tryz.call117 (fun L w hi=>btw_one w _ _ sp _ hi) rfl (WO.p rfl rfl ?_)))))))
      refine WO.guard_bl rfl rfl (fun c6=>?_) (fun c6=>?_)
      ·refine WO.go' rfl (WO.fieldL rfl rfl rfl (WO.go' rfl (WO.load rfl rfl (Cell.own (Pick.tail (Pick.tail (Pick.head))) rfl) rfl (WO.go' rfl (WO.buildSl rfl rfl rfl rfl rfl rfl rfl rfl rfl (fun v4=>(WO.go' rfl (WO.callR rfl Tryz.call117 (fun L w hi=>btw_one w _ _ st _ hi) rfl (WO.p rfl rfl (WO.p rfl rfl (WO.nil (W.sreg (WO.p rfl rfl (WO.nil (W.seq (W.sreg (WO.fieldL rfl rfl rfl (WO.load rfl rfl (Cell.own (Pick.tail (Pick.tail (Pick.tail (Pick.head)))) rfl) rfl ?_))))))))))))))))))
       refine' WO.len (n:=_) rfl rfl ?hs rfl ?_
       case hs=>(exact hR.sl)
       refine WO.p rfl rfl (WO.nil (W.block ?_))
       refine W.loop3 (fun (i:Nat) (g:Bool) (m:Int)=>i≤rows.length∧(g=true↔(1≤sp∧sp≤1000∧1≤st∧st≤100)∧∀ r∈rows.take i,∀ x∈r,okR x=true)∧0≤m∧(0<m↔∃ r∈rows.take i,∃ x∈r,posR x=true))
        (fun (i:Nat) (g:Bool) (m:Int)=>[(48,.int .i64 (i:Int)),(47,.int .i64 (rows.length:Int)),(46,o),(4,.bool g),(5,.int .i64 m)])
        (fun (i:Nat) (g:Bool) (m:Int)=>[])
        (fun (i:Nat) (g:Bool) (m:Int)=>rows.length-i) 0 _ 0
        (by exact ⟨by omega,by simp [bl_t];omega,by omega,by simp⟩) ⟨rfl,rfl,rfl,rfl,rfl,trivial⟩ (by repeat (first | exact Sub.nil | refine Sub.cons (by repeat first | exact .head | apply Pick.tail) ?_)) ?_
       rintro i g m ⟨hi,hg,hm0,hm⟩
       refine W.sreg (WO.p rfl rfl (WO.nil (W.seq ?_)))
       refine W.cond_bl rfl (fun c7=>?_) (fun c7=>?_)
       ·refine W.skip (W.seq (W.block (W.sreg ?_)))
        refine' WO.indexAddr (n:=_) (i:=_) rfl rfl rfl ?hs ?h1 rfl ?_
        case hs=>(exact hR.sl)
        case h1=>(omega)
        refine' WO.load (v:=_) rfl rfl ?hc rfl ?_
        case hc=>((refine hR.cellV ?_;omega))
        refine WO.p rfl rfl (WO.nil (W.sreg (WO.p rfl rfl ?_)))
        refine' WO.len (n:=_) rfl rfl ?hs rfl ?_
        case hs=>((refine (hR.row _ ?_).sl;omega))
        refine WO.p rfl rfl (WO.nil (W.block ?_))
        refine W.loop3 (fun (k:Nat) (g':Bool) (m':Int)=>k≤(rows.getD i []).length∧(g'=true↔g=true∧∀ x∈(rows.getD i []).take k,okR x=true)∧0≤m'∧(0<m'↔0<m∨∃ x∈(rows.getD i []).take k,posR x=true))
         (fun (k:Nat) (g':Bool) (m':Int)=>[(48,.int .i64 (i:Int)),(47,.int .i64 (rows.length:Int)),(46,o),(54,.int .i64 (k:Int)),(53,.int .i64 ((rows.getD i []).length:Int)),(52,rv.getD i undef),(4,.bool g'),(5,.int .i64 m')])
         (fun (k:Nat) (g':Bool) (m':Int)=>[])
         (fun (k:Nat) (g':Bool) (m':Int)=>(rows.getD i []).length-k) 0 g m
         (by exact ⟨by omega,by simp,by omega,by simp⟩) ⟨rfl,rfl,rfl,rfl,rfl,rfl,rfl,rfl,trivial⟩ (by repeat (first | exact Sub.nil | refine Sub.cons (by repeat first | exact .head | apply Pick.tail) ?_)) ?_
        rintro k g' m' ⟨hk,hg',hm0',hm'⟩
        have hlk:=(hR.row i (by omega)).sl.le
        refine W.sreg (WO.p rfl rfl (WO.nil (W.seq ?_)))
        refine W.cond_bl rfl (fun c8=>?_) (fun c8=>?_)
        ·refine W.skip (W.seq (W.block (W.sreg ?_)))
         refine' WO.indexAddr (n:=_) (i:=_) rfl rfl rfl ?hs ?h1 rfl ?_
         case hs=>((refine (hR.row _ ?_).sl;omega))
         case h1=>(omega)
         refine' WO.loadA (vs:=_) rfl rfl ?hc ?hl rfl ?_
         case hc=>((refine (hR.row _ ?_).cells ?_ (0,0) <;> omega))
         case hl=>rfl
         refine WO.alloc rfl rfl rfl (fun b5 hb5=>(WO.storeA rfl rfl rfl rfl Pick.head rfl rfl (WO.nil (W.sreg (WO.p rfl rfl (WO.p rfl rfl ?_))))))
         refine WO.guard_b rfl rfl (fun c9=>?_) (fun c9=>?_)
         ·refine WO.go' rfl (WO.field0 rfl rfl rfl (WO.go' rfl (WO.load rfl rfl (Cell.own Pick.head rfl) rfl (WO.go' rfl (WO.fieldL rfl rfl rfl (WO.go' rfl (WO.load rfl rfl (Cell.own Pick.head rfl) rfl (WO.go' rfl (WO.buildSl rfl rfl rfl rfl rfl rfl rfl rfl rfl (fun v6=>(WO.go' rfl (WO.callR rfl Tryz.call117 (fun L w hi=>btw_two w _ _ _ _ _ hi) rfl (WO.p rfl rfl (WO.p rfl rfl ?_))))))))))))))
          refine WO.guard_bl rfl rfl (fun c10=>?_) (fun c10=>?_)
          ·refine WO.go' rfl (WO.fieldL rfl rfl rfl (WO.go' rfl (WO.load rfl rfl (Cell.own (Pick.tail (Pick.head)) rfl) rfl (WO.go' rfl (WO.field0 rfl rfl rfl (WO.go' rfl (WO.load rfl rfl (Cell.own (Pick.tail (Pick.head)) rfl) rfl (WO.go' rfl (WO.ar rfl rfl rfl (by (first | (unfold in64;omega))) rfl (WO.go' rfl (WO.buildSl rfl rfl rfl rfl rfl rfl rfl rfl rfl (fun v7=>(WO.go' rfl (WO.callR rfl Tryz.call117 (fun L w hi=>btw_one w _ _ _ _ hi) rfl (WO.p rfl rfl (WO.p rfl rfl (WO.nil (W.region (WO.p rfl rfl (WO.field0 rfl rfl rfl (WO.load rfl rfl (Cell.own (Pick.tail (Pick.tail (Pick.head))) rfl) rfl (WO.max2 rfl rfl rfl (WO.p rfl rfl (WO.nil ?_))))))))))))))))))))))))
           refine W.region (WO.ar rfl rfl rfl (by (first | (unfold in64;omega))) rfl (WO.p rfl rfl (WO.nil ?_)))
           refine' ⟨k+1,_,_,?hp,?hmu,⟨rfl,rfl,rfl,rfl,rfl,rfl,rfl,rfl,trivial⟩,?hS⟩
           case hS=>repeat (first | exact Sub.nil | refine Sub.cons (by repeat first | exact .head | apply Pick.tail) ?_)
           case hp=>exact ⟨by omega,okStep (by omega) hg' (by exact q3 (by assumption) (by assumption)),by omega,posStep (by omega) hm0' hm'⟩
           case hmu=>omega
          ·refine WO.no rfl rfl (WO.no rfl rfl (WO.no rfl rfl (WO.no rfl rfl (WO.no rfl rfl (WO.no rfl rfl (WO.no rfl rfl (WO.p rfl rfl (WO.p rfl rfl (WO.nil (W.region (WO.p rfl rfl (WO.field0 rfl rfl rfl (WO.load rfl rfl (Cell.own (Pick.tail (Pick.head)) rfl) rfl (WO.max2 rfl rfl rfl (WO.p rfl rfl (WO.nil (W.region (WO.ar rfl rfl rfl (by (first | (unfold in64;omega))) rfl (WO.p rfl rfl (WO.nil ?_))))))))))))))))))))
           refine' ⟨k+1,_,_,?hp,?hmu,⟨rfl,rfl,rfl,rfl,rfl,rfl,rfl,rfl,trivial⟩,?hS⟩
           case hS=>repeat (first | exact Sub.nil | refine Sub.cons (by repeat first | exact .head | apply Pick.tail) ?_)
           case hp=>exact ⟨by omega,okStep (by omega) hg' (by exact q2 (by assumption)),by omega,posStep (by omega) hm0' hm'⟩
           case hmu=>omega
         ·refine WO.no rfl rfl (WO.no rfl rfl (WO.no rfl rfl (WO.no rfl rfl (WO.no rfl rfl (WO.no rfl rfl (WO.p rfl rfl (WO.p rfl rfl (WO.no rfl rfl (WO.no rfl rfl (WO.no rfl rfl (WO.no rfl rfl (WO.no rfl rfl (WO.no rfl rfl (WO.no rfl rfl (WO.p rfl rfl (WO.p rfl rfl (WO.nil (W.region (WO.p rfl rfl (WO.field0 rfl rfl rfl (WO.load rfl rfl (Cell.own Pick.head rfl) rfl (WO.max2 rfl rfl rfl (WO.p rfl rfl (WO.nil (W.region (WO.ar rfl rfl rfl (by (first | (unfold in64;omega))) rfl (WO.p rfl rfl (WO.nil ?_))))))))))))))))))))))))))))
          refine' ⟨k+1,_,_,?hp,?hmu,⟨rfl,rfl,rfl,rfl,rfl,rfl,rfl,rfl,trivial⟩,?hS⟩
          case hS=>repeat (first | exact Sub.nil | refine Sub.cons (by repeat first | exact .head | apply Pick.tail) ?_)
          case hp=>exact ⟨by omega,okStep (by omega) hg' (by exact q1 (by assumption)),by omega,posStep (by omega) hm0' hm'⟩
          case hmu=>omega
        ·refine W.exit (blk_same (W.region (WO.ar rfl rfl rfl (by (first | (unfold in64;omega))) rfl (WO.p rfl rfl (WO.nil ?_)))))
         refine' ⟨i+1,_,_,?hp,?hmu,⟨rfl,rfl,rfl,rfl,rfl,trivial⟩,?hS⟩
         case hS=>repeat (first | exact Sub.nil | refine Sub.cons (by repeat first | exact .head | apply Pick.tail) ?_)
         case hp=>exact ⟨by omega,rowStep (by omega) (by omega) hg hg',by omega,rowStepM (by omega) (by omega) hm hm'⟩
         case hmu=>omega
       ·refine W.exit (blk_same (W.seq (W.sreg (WO.p rfl rfl (WO.p rfl rfl (WO.p rfl rfl ?_))))))
        refine WO.guard_b rfl rfl (fun c11=>?_) (fun c11=>?_)
        ·refine WO.no rfl rfl (WO.no rfl rfl (WO.p rfl rfl (WO.nil (W.cond_t rfl (W.sreg (WO.p rfl rfl (WO.nil (W.ret (fin.ret (Res.one rfl (RV.tmp rfl)) (congrArg (Value.int .i64) ?_))))))))))
         exact fin2 (by omega) (lenI (Classical.not_not.1 (by assumption))) (by omega) hg hm0 hm (.inl (by assumption))
        ·refine WO.pg rfl rfl rfl (WO.pg rfl rfl rfl (WO.p rfl rfl (WO.nil ?_)))
         refine W.cond_bl rfl (fun c12=>?_) (fun c12=>?_)
         ·refine W.sreg (WO.p rfl rfl (WO.nil (W.ret (fin.ret (Res.one rfl (RV.tmp rfl)) (congrArg (Value.int .i64) ?_)))))
          exact fin2 (by omega) (lenI (Classical.not_not.1 (by assumption))) (by omega) hg hm0 hm (.inr (by assumption))
         ·refine W.skip (W.sreg (WO.p rfl rfl (WO.nil (W.ret (fin.ret (Res.one rfl (RV.tmp rfl)) (congrArg (Value.int .i64) ?_))))))
          exact fin0 (by omega) (lenI (Classical.not_not.1 (by assumption))) (by omega) hg hm0 hm (by assumption) (by assumption)
      ·refine WO.no rfl rfl (WO.no rfl rfl (WO.no rfl rfl (WO.no rfl rfl (WO.p rfl rfl (WO.p rfl rfl (WO.nil (W.sreg (WO.p rfl rfl (WO.nil (W.seq (W.sreg (WO.fieldL rfl rfl rfl (WO.load rfl rfl (Cell.own (Pick.tail (Pick.tail (Pick.head))) rfl) rfl ?_)))))))))))))
       refine' WO.len (n:=_) rfl rfl ?hs rfl ?_
       case hs=>(exact hR.sl)
       refine WO.p rfl rfl (WO.nil (W.block ?_))
       refine W.loop3 (fun (i:Nat) (g:Bool) (m:Int)=>i≤rows.length∧(g=true↔(1≤sp∧sp≤1000∧1≤st∧st≤100)∧∀ r∈rows.take i,∀ x∈r,okR x=true)∧0≤m∧(0<m↔∃ r∈rows.take i,∃ x∈r,posR x=true))
        (fun (i:Nat) (g:Bool) (m:Int)=>[(48,.int .i64 (i:Int)),(47,.int .i64 (rows.length:Int)),(46,o),(4,.bool g),(5,.int .i64 m)])
        (fun (i:Nat) (g:Bool) (m:Int)=>[])
        (fun (i:Nat) (g:Bool) (m:Int)=>rows.length-i) 0 _ 0
        (by exact ⟨by omega,by simp [bl_t];omega,by omega,by simp⟩) ⟨rfl,rfl,rfl,rfl,rfl,trivial⟩ (by repeat (first | exact Sub.nil | refine Sub.cons (by repeat first | exact .head | apply Pick.tail) ?_)) ?_
       rintro i g m ⟨hi,hg,hm0,hm⟩
       refine W.sreg (WO.p rfl rfl (WO.nil (W.seq ?_)))
       refine W.cond_bl rfl (fun c13=>?_) (fun c13=>?_)
       ·refine W.skip (W.seq (W.block (W.sreg ?_)))
        refine' WO.indexAddr (n:=_) (i:=_) rfl rfl rfl ?hs ?h1 rfl ?_
        case hs=>(exact hR.sl)
        case h1=>(omega)
        refine' WO.load (v:=_) rfl rfl ?hc rfl ?_
        case hc=>((refine hR.cellV ?_;omega))
        refine WO.p rfl rfl (WO.nil (W.sreg (WO.p rfl rfl ?_)))
        refine' WO.len (n:=_) rfl rfl ?hs rfl ?_
        case hs=>((refine (hR.row _ ?_).sl;omega))
        refine WO.p rfl rfl (WO.nil (W.block ?_))
        refine W.loop3 (fun (k:Nat) (g':Bool) (m':Int)=>k≤(rows.getD i []).length∧(g'=true↔g=true∧∀ x∈(rows.getD i []).take k,okR x=true)∧0≤m'∧(0<m'↔0<m∨∃ x∈(rows.getD i []).take k,posR x=true))
         (fun (k:Nat) (g':Bool) (m':Int)=>[(48,.int .i64 (i:Int)),(47,.int .i64 (rows.length:Int)),(46,o),(54,.int .i64 (k:Int)),(53,.int .i64 ((rows.getD i []).length:Int)),(52,rv.getD i undef),(4,.bool g'),(5,.int .i64 m')])
         (fun (k:Nat) (g':Bool) (m':Int)=>[])
         (fun (k:Nat) (g':Bool) (m':Int)=>(rows.getD i []).length-k) 0 g m
         (by exact ⟨by omega,by simp,by omega,by simp⟩) ⟨rfl,rfl,rfl,rfl,rfl,rfl,rfl,rfl,trivial⟩ (by repeat (first | exact Sub.nil | refine Sub.cons (by repeat first | exact .head | apply Pick.tail) ?_)) ?_
        rintro k g' m' ⟨hk,hg',hm0',hm'⟩
        have hlk:=(hR.row i (by omega)).sl.le
        refine W.sreg (WO.p rfl rfl (WO.nil (W.seq ?_)))
        refine W.cond_bl rfl (fun c14=>?_) (fun c14=>?_)
        ·refine W.skip (W.seq (W.block (W.sreg ?_)))
         refine' WO.indexAddr (n:=_) (i:=_) rfl rfl rfl ?hs ?h1 rfl ?_
         case hs=>((refine (hR.row _ ?_).sl;omega))
         case h1=>(omega)
         refine' WO.loadA (vs:=_) rfl rfl ?hc ?hl rfl ?_
         case hc=>((refine (hR.row _ ?_).cells ?_ (0,0) <;> omega))
         case hl=>rfl
         refine WO.alloc rfl rfl rfl (fun b8 hb8=>(WO.storeA rfl rfl rfl rfl Pick.head rfl rfl (WO.nil (W.sreg (WO.p rfl rfl (WO.p rfl rfl ?_))))))
         refine WO.guard_b rfl rfl (fun c15=>?_) (fun c15=>?_)
         ·refine WO.go' rfl (WO.field0 rfl rfl rfl (WO.go' rfl (WO.load rfl rfl (Cell.own Pick.head rfl) rfl (WO.go' rfl (WO.fieldL rfl rfl rfl (WO.go' rfl (WO.load rfl rfl (Cell.own Pick.head rfl) rfl (WO.go' rfl (WO.buildSl rfl rfl rfl rfl rfl rfl rfl rfl rfl (fun v9=>(WO.go' rfl (WO.callR rfl Tryz.call117 (fun L w hi=>btw_two w _ _ _ _ _ hi) rfl (WO.p rfl rfl (WO.p rfl rfl ?_))))))))))))))
          refine WO.guard_bl rfl rfl (fun c16=>?_) (fun c16=>?_)
          ·refine WO.go' rfl (WO.fieldL rfl rfl rfl (WO.go' rfl (WO.load rfl rfl (Cell.own (Pick.tail (Pick.head)) rfl) rfl (WO.go' rfl (WO.field0 rfl rfl rfl (WO.go' rfl (WO.load rfl rfl (Cell.own (Pick.tail (Pick.head)) rfl) rfl (WO.go' rfl (WO.ar rfl rfl rfl (by (first | (unfold in64;omega))) rfl (WO.go' rfl (WO.buildSl rfl rfl rfl rfl rfl rfl rfl rfl rfl (fun v10=>(WO.go' rfl (WO.callR rfl Tryz.call117 (fun L w hi=>btw_one w _ _ _ _ hi) rfl (WO.p rfl rfl (WO.p rfl rfl (WO.nil (W.region (WO.p rfl rfl (WO.field0 rfl rfl rfl (WO.load rfl rfl (Cell.own (Pick.tail (Pick.tail (Pick.head))) rfl) rfl (WO.max2 rfl rfl rfl (WO.p rfl rfl (WO.nil ?_))))))))))))))))))))))))
           refine W.region (WO.ar rfl rfl rfl (by (first | (unfold in64;omega))) rfl (WO.p rfl rfl (WO.nil ?_)))
           refine' ⟨k+1,_,_,?hp,?hmu,⟨rfl,rfl,rfl,rfl,rfl,rfl,rfl,rfl,trivial⟩,?hS⟩
           case hS=>repeat (first | exact Sub.nil | refine Sub.cons (by repeat first | exact .head | apply Pick.tail) ?_)
           case hp=>exact ⟨by omega,okStep (by omega) hg' (by exact q3 (by assumption) (by assumption)),by omega,posStep (by omega) hm0' hm'⟩
           case hmu=>omega
          ·refine WO.no rfl rfl (WO.no rfl rfl (WO.no rfl rfl (WO.no rfl rfl (WO.no rfl rfl (WO.no rfl rfl (WO.no rfl rfl (WO.p rfl rfl (WO.p rfl rfl (WO.nil (W.region (WO.p rfl rfl (WO.field0 rfl rfl rfl (WO.load rfl rfl (Cell.own (Pick.tail (Pick.head)) rfl) rfl (WO.max2 rfl rfl rfl (WO.p rfl rfl (WO.nil (W.region (WO.ar rfl rfl rfl (by (first | (unfold in64;omega))) rfl (WO.p rfl rfl (WO.nil ?_))))))))))))))))))))
           refine' ⟨k+1,_,_,?hp,?hmu,⟨rfl,rfl,rfl,rfl,rfl,rfl,rfl,rfl,trivial⟩,?hS⟩
           case hS=>repeat (first | exact Sub.nil | refine Sub.cons (by repeat first | exact .head | apply Pick.tail) ?_)
           case hp=>exact ⟨by omega,okStep (by omega) hg' (by exact q2 (by assumption)),by omega,posStep (by omega) hm0' hm'⟩
           case hmu=>omega
         ·refine WO.no rfl rfl (WO.no rfl rfl (WO.no rfl rfl (WO.no rfl rfl (WO.no rfl rfl (WO.no rfl rfl (WO.p rfl rfl (WO.p rfl rfl (WO.no rfl rfl (WO.no rfl rfl (WO.no rfl rfl (WO.no rfl rfl (WO.no rfl rfl (WO.no rfl rfl (WO.no rfl rfl (WO.p rfl rfl (WO.p rfl rfl (WO.nil (W.region (WO.p rfl rfl (WO.field0 rfl rfl rfl (WO.load rfl rfl (Cell.own Pick.head rfl) rfl (WO.max2 rfl rfl rfl (WO.p rfl rfl (WO.nil (W.region (WO.ar rfl rfl rfl (by (first | (unfold in64;omega))) rfl (WO.p rfl rfl (WO.nil ?_))))))))))))))))))))))))))))
          refine' ⟨k+1,_,_,?hp,?hmu,⟨rfl,rfl,rfl,rfl,rfl,rfl,rfl,rfl,trivial⟩,?hS⟩
          case hS=>repeat (first | exact Sub.nil | refine Sub.cons (by repeat first | exact .head | apply Pick.tail) ?_)
          case hp=>exact ⟨by omega,okStep (by omega) hg' (by exact q1 (by assumption)),by omega,posStep (by omega) hm0' hm'⟩
          case hmu=>omega
        ·refine W.exit (blk_same (W.region (WO.ar rfl rfl rfl (by (first | (unfold in64;omega))) rfl (WO.p rfl rfl (WO.nil ?_)))))
         refine' ⟨i+1,_,_,?hp,?hmu,⟨rfl,rfl,rfl,rfl,rfl,trivial⟩,?hS⟩
         case hS=>repeat (first | exact Sub.nil | refine Sub.cons (by repeat first | exact .head | apply Pick.tail) ?_)
         case hp=>exact ⟨by omega,rowStep (by omega) (by omega) hg hg',by omega,rowStepM (by omega) (by omega) hm hm'⟩
         case hmu=>omega
       ·refine W.exit (blk_same (W.seq (W.sreg (WO.p rfl rfl (WO.p rfl rfl (WO.p rfl rfl ?_))))))
        refine WO.guard_b rfl rfl (fun c17=>?_) (fun c17=>?_)
        ·refine WO.no rfl rfl (WO.no rfl rfl (WO.p rfl rfl (WO.nil (W.cond_t rfl (W.sreg (WO.p rfl rfl (WO.nil (W.ret (fin.ret (Res.one rfl (RV.tmp rfl)) (congrArg (Value.int .i64) ?_))))))))))
         exact fin2 (by omega) (lenI (Classical.not_not.1 (by assumption))) (by omega) hg hm0 hm (.inl (by assumption))
        ·refine WO.pg rfl rfl rfl (WO.pg rfl rfl rfl (WO.p rfl rfl (WO.nil ?_)))
         refine W.cond_bl rfl (fun c18=>?_) (fun c18=>?_)
         ·refine W.sreg (WO.p rfl rfl (WO.nil (W.ret (fin.ret (Res.one rfl (RV.tmp rfl)) (congrArg (Value.int .i64) ?_)))))
          exact fin2 (by omega) (lenI (Classical.not_not.1 (by assumption))) (by omega) hg hm0 hm (.inr (by assumption))
         ·refine W.skip (W.sreg (WO.p rfl rfl (WO.nil (W.ret (fin.ret (Res.one rfl (RV.tmp rfl)) (congrArg (Value.int .i64) ?_))))))
          exact fin0 (by omega) (lenI (Classical.not_not.1 (by assumption))) (by omega) hg hm0 hm (by assumption) (by assumption)
end Go.Proofs.YtncjabmlkgacdaaGreat.Bx
namespace Go.Proofs.YtncjabmlkgacdaaGreat.Bx
open Go Go.TH
attribute [local irreducible] W WO pt
set_option maxRecDepth 10000
set_option maxHeartbeats 1000000
section
variable {rows:List (List (Int × Int))} {ys:List (List Int)} {i k:Nat} {e e':Int} {X:Prop}
end
end Go.Proofs.YtncjabmlkgacdaaGreat.Bx
namespace Go.Proofs.YtncjabmlkgacdaaGreat.Bx
open Go Go.TH
attribute [local irreducible] W WO pt
set_option maxRecDepth 10000
set_option maxHeartbeats 1000000
theorem c_weight (w:World) (i n:Nat) (hi:i<n) (hn:n≤1000):Ret Tryz.prog 187 [.agg #[.int .i64 1,.int .i64 2],.int .i64 (i:Int),.int .i64 (n:Int)].toArray w (.int .i64 (wgt i n)):=by
 refine Ret.of mixed tyTab Tryz.func187 rfl rfl (W.sreg (WO.boxA rfl rfl (fun b1 hb1=>(WO.p rfl rfl (WO.nil (W.seq (W.sreg (WO.p rfl rfl (WO.p rfl rfl (WO.p rfl rfl ?_))))))))))
 refine WO.guard_bl rfl rfl (fun c1=>?_) (fun c1=>?_)
 ·refine WO.pg rfl rfl rfl (WO.pg rfl rfl rfl (WO.go' rfl (WO.ar rfl rfl rfl (by (first | (unfold in64;omega))) rfl (WO.pg rfl rfl rfl (WO.p rfl rfl (WO.nil ?_))))))
  refine W.cond_bl rfl (fun c2=>?_) (fun c2=>?_)
  ·refine W.sreg (WO.indexArrL (o':=1) rfl rfl rfl (by decide) rfl rfl (WO.load rfl rfl (Cell.own Pick.head rfl) rfl (WO.p rfl rfl (WO.nil (W.ret (fin.ret (Res.one rfl (RV.tmp rfl)) (congrArg (Value.int .i64) ?_)))))))
   unfold wgt;rw [if_neg (by omega)]
  ·refine W.skip (W.sreg (WO.indexArrL (o':=0) rfl rfl rfl (by decide) rfl rfl (WO.load rfl rfl (Cell.own Pick.head rfl) rfl (WO.p rfl rfl (WO.nil (W.ret (fin.ret (Res.one rfl (RV.tmp rfl)) (congrArg (Value.int .i64) ?_))))))))
   unfold wgt;rw [if_pos (by omega)]
 ·refine WO.no rfl rfl (WO.no rfl rfl (WO.no rfl rfl (WO.no rfl rfl (WO.p rfl rfl (WO.nil (W.cond_f rfl (W.skip (W.sreg (WO.indexArrL (o':=0) rfl rfl rfl (by decide) rfl rfl (WO.load rfl rfl (Cell.own Pick.head rfl) rfl (WO.p rfl rfl (WO.nil (W.ret (fin.ret (Res.one rfl (RV.tmp rfl)) (congrArg (Value.int .i64) ?_)))))))))))))))
  unfold wgt;rw [if_pos (by omega)]
theorem c_places (w:World) (p:Addr):Ct Tryz.prog 118 [.pointer (some p)].toArray w fun v w'=>∃ Hq,(∃ b1 b2,v=.func (.func 188) #[] #[.pointer (some ⟨b1,0,none⟩),.pointer (some ⟨b2,0,none⟩)] ∧
 Hq=[pt b2 (.cells #[.func (.func 187) #[.agg #[.int .i64 1,.int .i64 2]] #[]] 305 (0,0)),pt b1 (.cells #[.pointer (some p)] 209 (0,0))])∧Inv w [] Hq w':=by
 refine Ct.of mixed tyTab Tryz.func118 rfl rfl (W.sreg (WO.box1 rfl (by rfl) rfl (fun b1 hb1=>(WO.p rfl rfl (WO.nil (W.sreg (WO.build rfl rfl rfl rfl rfl (WO.p rfl rfl (WO.alloc rfl rfl rfl (fun b2 hb2=>(WO.store1 rfl rfl rfl (by rfl) Pick.head rfl (WO.nil (W.sreg (WO.p rfl rfl (WO.p rfl rfl (WO.nil (W.ret ?_)))))))))))))))))
 exact fin.ret (Res.one rfl (RV.tmp rfl)) ⟨b1,b2,rfl,rfl⟩
def plcTo (rows:List (List (Int × Int))) (i:Nat):List (Nat × Nat):=(List.range i).flatMap fun i=>(List.range (rows.getD i []).length).map fun k=>(i,k)
def plc (rows:List (List (Int × Int))):List (Nat × Nat):=plcTo rows rows.length
theorem plcTo_succ (rows:List (List (Int × Int))) (i:Nat):plcTo rows (i+1)=plcTo rows i++(List.range (rows.getD i []).length).map fun k=>(i,k):=by
 unfold plcTo;rw [List.range_succ,List.flatMap_append];simp
theorem plcTo_len (rows:List (List (Int × Int))) (i:Nat):(plcTo rows (i+1)).length=(plcTo rows i).length+(rows.getD i []).length:=by rw [plcTo_succ];simp
theorem plcTo_get (rows:List (List (Int × Int))) {i k:Nat}:∀ {n:Nat},i<n→k<(rows.getD i []).length→(plcTo rows n)[(plcTo rows i).length+k]?=some (i,k)
 | 0,h,_=>by omega
 | n+1,h,hk=>by
  rw [plcTo_succ]
  rcases Nat.lt_or_ge i n with h1 | h1
  ·have:=plcTo_get rows (n:=n) h1 hk
   rw [List.getElem?_append_left (List.getElem?_eq_some_iff.1 this).1];exact this
  ·obtain rfl:i=n:=by omega
   rw [List.getElem?_append_right (by omega),Nat.add_sub_cancel_left,List.getElem?_map,List.getElem?_range hk]
   rfl
def placeV (n m i k:Nat):Value:=.agg #[.int .i64 (i:Int),.int .i64 (k:Int),.int .i64 (wgt i n*wgt k m),.int .i64 (wgt i n),.bool (bl ((k:Int)=(m:Int)-1))]
def plcV (rows:List (List (Int × Int))):List Value:=(plc rows).map fun q=>placeV rows.length (rows.getD q.1 []).length q.1 q.2
theorem plcV_get {rows:List (List (Int × Int))} {i k:Nat} (hi:i<rows.length) (hk:k<(rows.getD i []).length):(plcV rows)[(plcTo rows i).length+k]?=some (placeV rows.length (rows.getD i []).length i k):=by
 unfold plcV plc;rw [List.getElem?_map,plcTo_get rows hi hk];rfl
theorem c_places1 (B:Nat) (wr:World) (p:Addr) (sp st:Int) (o:Value) (rv:List Value) (rows:List (List (Int × Int))) (X:HP) (hR:RdR encP 2 B wr o rv rows) (hv:HV sp st rows)
 (l:Nat) (Hc:Nat→List HP) (hy:∀ k x,(plcV rows)[k]?=some x→YieldOK Tryz.prog B wr l #[x] (Hc k) (Hc (k+1))) (b1 b2:Nat) (w:World) (M':List Nat) (hB:B≤w.heap.size) (hk:∀ k,k<B→w.heap[k]?=wr.heap[k]?) (hM:∀ b∈M',B≤b)
 (hPX:∀ H:List HP,Sub H [X]→Cell (itCx mixed tyTab Tryz.f188.ntmps w M' B hB hM) H (prt p 2) o)
 (hi:Inv w M' ([pt b2 (.cells #[.func (.func 187) #[.agg #[.int .i64 1,.int .i64 2]] #[]] 305 (0,0)),pt b1 (.cells #[.pointer (some p)] 209 (0,0)),X]++Hc 0) w) :
 Ct Tryz.prog 188 ([.func (.yield l) #[] #[],.pointer (some ⟨b1,0,none⟩),.pointer (some ⟨b2,0,none⟩)]:List Value).toArray w fun _ w'=>Inv w M' ([pt b2 (.cells #[.func (.func 187) #[.agg #[.int .i64 1,.int .i64 2]] #[]] 305 (0,0)),pt b1 (.cells #[.pointer (some p)] 209 (0,0)),X]++Hc (plcV rows).length) w':=by
 refine Iter.of mixed tyTab hB hM Tryz.func188 rfl rfl hi ?_
 replace hR:RdR encP 2 (itCx mixed tyTab Tryz.f188.ntmps w M' B hB hM).B (itCx mixed tyTab Tryz.f188.ntmps w M' B hB hM).w0 o rv rows:=hR.agree hk
 have hle:=hR.sl.le
 have hn:=hv.n
 have hm:=hv.m
 refine W.sreg (WO.load rfl rfl (Cell.own (Pick.tail (Pick.head)) rfl) rfl (WO.p rfl rfl (WO.field0 rfl rfl rfl (WO.field rfl rfl rfl ?_))))
 refine' WO.load (v:=_) rfl rfl ?hc rfl ?_
 case hc=>(first | (refine hPX _ ?_;repeat (first | exact Sub.nil | refine Sub.cons (by repeat first | exact .head | apply Pick.tail) ?_)) | (refine hR.cellV ?_;omega))
 refine' WO.len (n:=_) rfl rfl ?hs rfl ?_
 case hs=>(exact hR.sl)
 refine WO.p rfl rfl (WO.nil (W.block ?_))
 refine W.loop (fun (i:Nat)=>i≤rows.length)
  (fun (i:Nat)=>[(14,.int .i64 (i:Int)),(13,.int .i64 (rows.length:Int)),(12,o),(0,.func (.yield l) #[] #[]),(1,.pointer (some ⟨b1,0,none⟩)),(2,.pointer (some ⟨b2,0,none⟩))])
  (fun (i:Nat)=>[pt b1 (.cells #[.pointer (some p)] 209 (0,0)),pt b2 (.cells #[.func (.func 187) #[.agg #[.int .i64 1,.int .i64 2]] #[]] 305 (0,0)),X,sat (Hc (plcTo rows i).length)])
  (fun (i:Nat)=>rows.length-i) 0
  (by exact Nat.zero_le _) ⟨rfl,rfl,rfl,rfl,rfl,rfl,trivial⟩ (by repeat (first | exact Sub.nil | refine Sub.cons (by repeat first | exact .head | apply Pick.tail) ?_)) ?_
 rintro i hi'
 refine W.sreg (WO.p rfl rfl (WO.nil (W.seq ?_)))
 refine W.cond_bl rfl (fun c1=>?_) (fun c1=>?_)
 ·refine W.skip (W.seq (W.block (W.sreg (WO.p rfl rfl ?_))))
  refine' WO.indexAddr (n:=_) (i:=_) rfl rfl rfl ?hs ?h1 rfl ?_
  case hs=>(exact hR.sl)
  case h1=>(omega)
  refine' WO.load (v:=_) rfl rfl ?hc rfl ?_
  case hc=>(first | (refine hPX _ ?_;repeat (first | exact Sub.nil | refine Sub.cons (by repeat first | exact .head | apply Pick.tail) ?_)) | (refine hR.cellV ?_;omega))
  refine WO.p rfl rfl (WO.p rfl rfl (WO.nil (W.sreg (WO.p rfl rfl ?_))))
  refine' WO.len (n:=_) rfl rfl ?hs rfl ?_
  case hs=>((refine (hR.row _ ?_).sl;omega))
  refine WO.p rfl rfl (WO.nil (W.block ?_))
  refine W.loop (fun (k:Nat)=>k≤(rows.getD i []).length)
   (fun (k:Nat)=>[(14,.int .i64 (i:Int)),(13,.int .i64 (rows.length:Int)),(12,o),(21,.int .i64 (k:Int)),(20,.int .i64 ((rows.getD i []).length:Int)),(19,rv.getD i undef),(4,.int .i64 (i:Int)),(5,rv.getD i undef),(0,.func (.yield l) #[] #[]),(1,.pointer (some ⟨b1,0,none⟩)),(2,.pointer (some ⟨b2,0,none⟩))])
   (fun (k:Nat)=>[pt b1 (.cells #[.pointer (some p)] 209 (0,0)),pt b2 (.cells #[.func (.func 187) #[.agg #[.int .i64 1,.int .i64 2]] #[]] 305 (0,0)),X,sat (Hc ((plcTo rows i).length+k))])
   (fun (k:Nat)=>(rows.getD i []).length-k) 0
   (by exact Nat.zero_le _) ⟨rfl,rfl,rfl,rfl,rfl,rfl,rfl,rfl,rfl,rfl,rfl,trivial⟩ (by repeat (first | exact Sub.nil | refine Sub.cons (by repeat exact .head) ?_)) ?_
  rintro k hk'
  have hlk:=hv.eq i (by omega)
  refine W.sreg (WO.p rfl rfl (WO.nil (W.seq ?_)))
  refine W.cond_bl rfl (fun c2=>?_) (fun c2=>?_)
  ·refine W.skip (W.seq (W.block (W.sreg (WO.p rfl rfl (WO.p rfl rfl (WO.nil (W.seq ?_)))))))
   refine W.drawD 8 [.b 0 [],.r 1 [],.b 2 [],.r 3 [],.r 4 [],.r 5 [],.b 6 [],.r 7 []] [] (A0:=[]) (Sub.refl _) (by kernel_rfl) ?_ ?_
   ·repeat constructor
   refine DT.b rfl rfl rfl (WO.load rfl rfl (Cell.own (Pick.tail (Pick.head)) rfl) rfl (WO.nil ⟨rfl,rfl⟩)) (DT.r rfl rfl rfl (WO.p rfl rfl (WO.nil ⟨rfl,rfl⟩)) (DT.b rfl rfl rfl (WO.load rfl rfl (Cell.own Pick.head rfl) rfl (WO.nil ⟨rfl,rfl⟩)) (DT.r rfl rfl rfl (WO.p rfl rfl (WO.nil ⟨rfl,rfl⟩)) (DT.r rfl rfl rfl (WO.field0 rfl rfl rfl (WO.nil ⟨rfl,rfl⟩)) (DT.r rfl rfl rfl (WO.field rfl rfl rfl (WO.nil ⟨rfl,rfl⟩)) ?_)))))
   refine' DT.b rfl rfl rfl ?hq ?_
   case hq =>
    refine' WO.load (v:=_) rfl rfl ?hc rfl ?_
    case hc=>(first | (refine hPX _ ?_;repeat (first | exact Sub.nil | refine Sub.cons (by repeat first | exact .head | apply Pick.tail) ?_)) | (refine hR.cellV ?_;omega))
    exact WO.nil ⟨rfl,rfl⟩
   refine' DT.r rfl rfl rfl ?hq ?_
   case hq =>
    refine' WO.len (n:=_) rfl rfl ?hs rfl ?_
    case hs=>(exact hR.sl)
    exact WO.nil ⟨rfl,rfl⟩
   refine DT.nil [_,_,_,_] rfl (WO.callCR (first:=[.agg #[.int .i64 1,.int .i64 2]]) (captured:=[]) rfl rfl Tryz.call187 (fun L w hi=>c_weight w i rows.length (by omega) (by omega)) rfl (WO.p rfl rfl (WO.nil (W.sreg (WO.p rfl rfl (WO.p rfl rfl (WO.p rfl rfl (WO.p rfl rfl (WO.load rfl rfl (Cell.own (Pick.tail (Pick.head)) rfl) rfl (WO.p rfl rfl (WO.p rfl rfl ?_)))))))))))
   refine' WO.len (n:=_) rfl rfl ?hs rfl ?_
   case hs=>((refine (hR.row _ ?_).sl;omega))
   refine WO.callCR (first:=[.agg #[.int .i64 1,.int .i64 2]]) (captured:=[]) rfl rfl Tryz.call187 (fun L w hi=>c_weight w k (rows.getD i []).length (by omega) (by omega)) rfl (WO.ar rfl rfl rfl (by (exact in64B (mulB (wgtB _ _) (wgtB _ _)) (by decide))) rfl (WO.p rfl rfl (WO.p rfl rfl (WO.p rfl rfl ?_))))
   refine' WO.len (n:=_) rfl rfl ?hs rfl ?_
   case hs=>((refine (hR.row _ ?_).sl;omega))
   refine WO.ar rfl rfl rfl (by ((unfold in64;omega))) rfl (WO.p rfl rfl (WO.build rfl rfl rfl rfl rfl (WO.yield rfl rfl (by repeat first | exact .head | apply Pick.tail) ((hy _ _ (plcV_get (by omega) (by omega))).one.agree hk) rfl (WO.p rfl rfl (WO.nil (W.cond_f rfl (W.skip (W.region (WO.ar rfl rfl rfl (by ((unfold in64;omega))) rfl (WO.p rfl rfl (WO.nil ?_)))))))))))
   refine' ⟨k+1,?hp,?hmu,⟨rfl,rfl,rfl,rfl,rfl,rfl,rfl,rfl,rfl,rfl,rfl,trivial⟩,?hS⟩
   case hS=>repeat (first | exact Sub.nil | refine Sub.cons (by repeat first | exact .head | apply Pick.tail) ?_)
   case hp=>omega
   case hmu=>omega
  ·refine W.exit (blk_same ?_)
   obtain rfl:k=(rows.getD i []).length:=by omega
   rw [← plcTo_len]
   refine W.region (WO.ar rfl rfl rfl (by ((unfold in64;omega))) rfl (WO.p rfl rfl (WO.nil ?_)))
   refine' ⟨i+1,?hp,?hmu,⟨rfl,rfl,rfl,rfl,rfl,rfl,trivial⟩,?hS⟩
   case hS=>repeat (first | exact Sub.nil | refine Sub.cons (by repeat exact .head) ?_)
   case hp=>omega
   case hmu=>omega
 ·refine W.exit (blk_same ?_)
  obtain rfl:i=rows.length:=by omega
  refine fin.normal (Res.none rfl) ?_
  rw [show (plcV rows).length=(plcTo rows rows.length).length by simp [plcV,plc]]
  exact .cons (.tail .head) (.cons .head (.cons .head (.cons .head .nil)))
end Go.Proofs.YtncjabmlkgacdaaGreat.Bx
namespace Go.Proofs.YtncjabmlkgacdaaGreat.Bx
open Go Go.TH
attribute [local irreducible] W WO pt
set_option maxRecDepth 10000
set_option maxHeartbeats 1000000
section
variable {what sp st:Int} {n m i k:Nat} {y:Int}
end
def pSum (f:Nat × Nat→Int) (l:List (Nat × Nat)):Int:=l.foldl (fun s q=>s+f q) 0
theorem pSum_app (f:Nat × Nat→Int) (l r:List (Nat × Nat)):pSum f (l++r)=pSum f l+pSum f r:=by
 have key:∀ (r:List (Nat × Nat)) (a:Int),r.foldl (fun s q=>s+f q) a=a+pSum f r:=by
  intro r
  induction r with
  | nil=>intro a;simp [pSum]
  | cons x r ih=>intro a;simp only [pSum,List.foldl_cons];rw [ih,ih (0+f x)];omega
 unfold pSum;rw [List.foldl_append,key];rfl
theorem pSum_range (f:Nat × Nat→Int) (i:Nat):∀ k,pSum f ((List.range k).map fun k=>(i,k))=ps (fun k=>f (i,k)) k
 | 0=>rfl
 | k+1=>by rw [List.range_succ,List.map_append,pSum_app,pSum_range f i k];simp [pSum,ps]
theorem pSum_plc (f:Nat × Nat→Int) (rows:List (List (Int × Int))):∀ i,pSum f (plcTo rows i)=ps (fun i=>ps (fun k=>f (i,k)) (rows.getD i []).length) i
 | 0=>rfl
 | i+1=>by rw [plcTo_succ,pSum_app,pSum_plc f rows i,pSum_range];rfl
theorem pSum_take {f:Nat × Nat→Int} {l:List (Nat × Nat)} {q:Nat} {x:Nat × Nat} (h:l[q]?=some x):pSum f (l.take (q+1))=pSum f (l.take q)+f x:=by
 have hl:=(List.getElem?_eq_some_iff.1 h)
 rw [List.take_succ_eq_append_getElem hl.1,pSum_app,hl.2];simp [pSum]
theorem pSum_bound {f:Nat × Nat→Int} {A B:Int}:∀ {l:List (Nat × Nat)},(∀ x∈l,-A≤f x∧f x≤B) → -(l.length*A)≤pSum f l∧pSum f l≤l.length*B
 | [],_=>by simp [pSum]
 | x::l,h=>by
  have h1:=pSum_bound (l:=l) (fun y hy=>h y (by simp [hy]))
  have h2:=h x (by simp)
  have e:pSum f (x::l)=f x+pSum f l:=by rw [show x::l=[x]++l from rfl,pSum_app];simp [pSum]
  rw [e]
  simp only [List.length_cons]
  have e1:((l.length+1:Nat):Int)*B=l.length*B+B:=by rw [Int.natCast_add,Int.add_mul];simp
  have e2:((l.length+1:Nat):Int)*A=l.length*A+A:=by rw [Int.natCast_add,Int.add_mul];simp
  omega
theorem plc_mem {rows:List (List (Int × Int))} {x:Nat × Nat} (h:x∈plc rows):x.1<rows.length∧x.2<(rows.getD x.1 []).length:=by
 unfold plc plcTo at h
 obtain ⟨i,hi,h2⟩:=List.mem_flatMap.1 h
 obtain ⟨k,hk,rfl⟩:=List.mem_map.1 h2
 exact ⟨by simpa using hi,by simpa using hk⟩
theorem plc_len {sp st:Int} {rows:List (List (Int × Int))} (hv:HV sp st rows):(plc rows).length≤60:=by
 have key:∀ i,i≤rows.length→(plcTo rows i).length≤i*6:=by
  intro i
  induction i with
  | zero=>intro _;simp [plcTo]
  | succ i ih=>intro h;rw [plcTo_len,hv.eq i (by omega)];have:=ih (by omega);have:=hv.m;omega
 have:=key rows.length (Nat.le_refl _)
 have:=hv.n
 unfold plc;omega
theorem plcV_some {rows:List (List (Int × Int))} {q:Nat} {x:Value} (h:(plcV rows)[q]?=some x):∃ i k,(plc rows)[q]?=some (i,k)∧i<rows.length∧k<(rows.getD i []).length∧x=placeV rows.length (rows.getD i []).length i k:=by
 unfold plcV at h
 rw [List.getElem?_map] at h
 cases hq:(plc rows)[q]? with
 | none=>simp [hq] at h
 | some y =>
  simp [hq] at h
  have:=plc_mem (List.mem_of_getElem? hq)
  exact ⟨y.1,y.2,rfl,this.1,this.2,by simpa using h.symm⟩
end Go.Proofs.YtncjabmlkgacdaaGreat.Bx
namespace Go.Proofs.YtncjabmlkgacdaaGreat.Bx
open Go Go.TH
attribute [local irreducible] W WO pt
set_option maxRecDepth 10000
set_option maxHeartbeats 1000000
def xwP (rows:List (List (Int × Int))) (ys:List (List Int)) (q:Nat × Nat):Int:=wgt q.1 rows.length*wgt q.2 (rows.getD q.1 []).length*yy ys q.1 q.2
section
variable {sp st:Int} {rows:List (List (Int × Int))} {ys:List (List Int)}
theorem TV.yB (hv:HV sp st rows) (tv:TV rows ys) {i k:Nat} (hi:i<rows.length) (hk:k<(rows.getD i []).length):0≤yy ys i k∧yy ys i k≤500:=by
 have hl:=tv.len
 exact (tv.small hv).y i k (by omega) (by rw [tv.row i (by omega)];exact hk)
theorem ps_congr {f g:Nat→Int}:∀ {n:Nat},(∀ i,i<n→f i=g i)→ps f n=ps g n
 | 0,_=>rfl
 | n+1,h=>by simp only [ps];rw [ps_congr (n:=n) (fun i hi=>h i (by omega)),h n (by omega)]
theorem xwP_all (tv:TV rows ys):pSum (xwP rows ys) (plc rows)=sAll ys ys.length:=by
 unfold plc sAll
 rw [pSum_plc,tv.len]
 refine ps_congr fun i hi=>?_
 have hr:=tv.row i (by rw [tv.len];exact hi)
 rw [hr]
 refine ps_congr fun k hk=>?_
 unfold xwP xw;rw [hr,tv.len]
theorem xwP_bound (hv:HV sp st rows) (tv:TV rows ys) (q:Nat) : -120000≤pSum (xwP rows ys) ((plc rows).take q)∧pSum (xwP rows ys) ((plc rows).take q)≤120000:=by
 have h1:=pSum_bound (f:=xwP rows ys) (l:=(plc rows).take q) (A:=0) (B:=2000) fun x hx=>by
  have hm:=plc_mem (List.mem_of_mem_take hx)
  have hw:=mulB (mulB (wgtB x.1 rows.length) (wgtB x.2 (rows.getD x.1 []).length)) (tv.yB hv hm.1 hm.2)
  unfold xwP;omega
 have h2:=plc_len hv
 have h3:((plc rows).take q).length≤60:=by rw [List.length_take];omega
 omega
end
theorem plcV_len (rows:List (List (Int × Int))):(plcV rows).length=(plc rows).length:=by simp [plcV]
theorem c_volume (w:World) (sp st:Int) (o o':Value) (rv rv':List Value) (rows:List (List (Int × Int))) (ys:List (List Int)) (hR:RdR encP 2 w.heap.size w o rv rows) (hR':RdR encI 1 w.heap.size w o' rv' ys) (hv:HV sp st rows) (tv:TV rows ys) :
 Ret Tryz.prog 61 [.agg #[.int .i64 sp,.int .i64 st,o],o'].toArray w (.agg (encP (volQ sp st ys)).toArray):=by
 refine Ret.of mixed tyTab Tryz.func61 rfl rfl ?_
 replace hR:RdR encP 2 (fnCx mixed tyTab Tryz.f61.ntmps w).B (fnCx mixed tyTab Tryz.f61.ntmps w).w0 o rv rows:=hR
 replace hR':RdR encI 1 (fnCx mixed tyTab Tryz.f61.ntmps w).B (fnCx mixed tyTab Tryz.f61.ntmps w).w0 o' rv' ys:=hR'
 have hlen:=tv.len
 have ho':=hR'.sl.oc
 have hS:=tv.small hv
 have ba:=hS.all (Nat.le_refl _)
 have q1:=hv.sp
 have q2:=hv.st
 have p1:=mulB (A:=1000) (B:=100) ⟨by omega,q1.2⟩ ⟨by omega,q2.2⟩
 have p2:=mulB p1 ba
 refine W.sreg (WO.boxA rfl rfl (fun b1 hb1=>(WO.box1 rfl (by assumption) rfl (fun b2 hb2=>(WO.alloc rfl rfl rfl (fun b3 hb3=>(WO.nil (W.sreg (WO.loadA rfl rfl (Cells.own (Pick.tail (Pick.tail (Pick.head)))) rfl rfl (WO.build rfl rfl rfl rfl rfl (WO.boxA rfl rfl (fun b4 hb4=>(WO.p rfl rfl (WO.nil (W.sreg (WO.alloc rfl rfl rfl (fun b5 hb5=>(WO.store1 rfl rfl rfl (by rfl) Pick.head rfl (WO.nil (W.seq (W.sreg (WO.p rfl rfl ?_))))))))))))))))))))))
 refine WO.call (Post:=fun v Hq=>∃ b1 b2,v=.func (.func 188) #[] #[.pointer (some ⟨b1,0,none⟩),.pointer (some ⟨b2,0,none⟩)]∧Hq=[pt b2 (.cells #[.func (.func 187) #[.agg #[.int .i64 1,.int .i64 2]] #[]] 305 (0,0)),pt b1 (.cells #[.pointer (some ⟨b4,0,none⟩)] 209 (0,0))]) rfl Tryz.call118 (fun L w hi=>c_places w _) rfl ?_
 rintro _ _ ⟨e1,e2,rfl,rfl⟩
 refine WO.nil (W.block ?_)
 refine W.rangeFunc [pt e2 (.cells #[.func (.func 187) #[.agg #[.int .i64 1,.int .i64 2]] #[]] 305 (0,0)),pt e1 (.cells #[.pointer (some ⟨b4,0,none⟩)] 209 (0,0)),pt b4 (.cells #[.int .i64 sp,.int .i64 st,o,.int .i64 0] 211 (0,0))] (fun q=>[pt b5 (.cells #[.int .i64 (pSum (xwP rows ys) ((plc rows).take q))] 2 (0,0)),pt b1 (.cells #[.int .i64 sp,.int .i64 st,o] 78 (0,0)),pt b2 (.cells #[o'] 129 (0,0)),pt b3 (.cells #[.int .i64 0,.int .i64 0] 50 (0,0))]) (plcV rows) rfl rfl rfl Tryz.call188 (by repeat (first | exact Sub.nil | refine Sub.cons (by repeat first | exact .head | apply Pick.tail) ?_)) ?_ ?_ ?_
 ·intro l Hc hy w1 M' hB hk hM hi
  exact c_places1 _ _ ⟨b4,0,none⟩ sp st o rv rows _ hR hv l Hc hy e1 e2 w1 M' hB hk hM (fun _ s=>by cases s with | cons p _=>rw [prt_eq];exact Cell.own (off:=2) p rfl) hi
 ·intro l w1 M hB hM hk q x hx
  obtain ⟨i,k,hq,hi,hk',rfl⟩:=plcV_some hx
  have hR2:RdR encI 1 (rdCx (fnCx mixed tyTab Tryz.f61.ntmps w) l w1 M hB hM).B (rdCx (fnCx mixed tyTab Tryz.f61.ntmps w) l w1 M hB hM).w0 o' rv' ys:=hR'.agree hk
  have hrl:=tv.row i (by omega)
  have hyB:=tv.yB hv hi hk'
  have hsB:=xwP_bound hv tv q
  rw [pSum_take hq]
  refine W.region (WO.alloc rfl rfl rfl (fun b6 hb6=>(WO.storeA rfl rfl rfl rfl Pick.head rfl rfl (WO.nil (W.block ?_)))))
  refine W.drawD 13 [.b 0 [],.r 1 [],.b 2 [],.b 3 [],.r 4 [],.b 5 [],.r 6 [],.b 7 [],.r 8 [],.b 9 [],.r 10 [],.b 11 [],.r 12 []] [] (A0:=[]) (Sub.refl _) (by kernel_rfl) ?_ ?_
  ·repeat constructor
  refine DT.b rfl rfl rfl (WO.load rfl rfl (Cell.own (Pick.tail (Pick.head)) rfl) rfl (WO.nil ⟨rfl,rfl⟩)) (DT.r rfl rfl rfl (WO.fieldL rfl rfl rfl (WO.nil ⟨rfl,rfl⟩)) (DT.b rfl rfl rfl (WO.load rfl rfl (Cell.own Pick.head rfl) rfl (WO.nil ⟨rfl,rfl⟩)) (DT.b rfl rfl rfl (WO.load rfl rfl (Cell.own (Pick.tail (Pick.tail (Pick.tail (Pick.head)))) rfl) rfl (WO.nil ⟨rfl,rfl⟩)) (DT.r rfl rfl rfl (WO.field0 rfl rfl rfl (WO.nil ⟨rfl,rfl⟩)) (DT.b rfl rfl rfl (WO.load rfl rfl (Cell.own Pick.head rfl) rfl (WO.nil ⟨rfl,rfl⟩)) ?_)))))
  refine' DT.r rfl rfl rfl ?hq ?_
  case hq =>
   refine' WO.indexAddr (n:=_) (i:=_) rfl rfl rfl ?hs ?h1 rfl ?_
   case hs=>(exact hR2.sl)
   case h1=>(omega)
   exact WO.nil ⟨rfl,rfl⟩
  refine' DT.b rfl rfl rfl ?hq ?_
  case hq =>
   refine' WO.load (v:=_) rfl rfl ?hc rfl ?_
   case hc=>(first | (refine hR2.cellV ?_;omega) | (refine (hR2.row _ ?_).cell0 ?_ 0 ?_ <;> first | rfl | omega))
   exact WO.nil ⟨rfl,rfl⟩
  refine DT.r rfl rfl rfl (WO.fieldL rfl rfl rfl (WO.nil ⟨rfl,rfl⟩)) (DT.b rfl rfl rfl (WO.load rfl rfl (Cell.own Pick.head rfl) rfl (WO.nil ⟨rfl,rfl⟩)) ?_)
  refine' DT.r rfl rfl rfl ?hq ?_
  case hq =>
   refine' WO.indexAddr (n:=_) (i:=_) rfl rfl rfl ?hs ?h1 rfl ?_
   case hs=>((refine (hR2.row _ ?_).sl;omega))
   case h1=>(omega)
   exact WO.nil ⟨rfl,rfl⟩
  refine' DT.b rfl rfl rfl ?hq ?_
  case hq =>
   refine' WO.load (v:=_) rfl rfl ?hc rfl ?_
   case hc=>(first | (refine hR2.cellV ?_;omega) | (refine (hR2.row _ ?_).cell0 ?_ 0 ?_ <;> first | rfl | omega))
   exact WO.nil ⟨rfl,rfl⟩
  refine DT.r rfl rfl rfl (WO.ar rfl rfl rfl (by (first | exact in64B (mulB (mulB (wgtB _ _) (wgtB _ _)) hyB) (by decide))) rfl (WO.nil ⟨rfl,rfl⟩)) (DT.nil [_,_,_,_,_] rfl (WO.ar rfl rfl rfl (by (first | have h1:=mulB (mulB (wgtB i rows.length) (wgtB k (rows.getD i []).length)) hyB;unfold yy at h1;unfold in64;omega)) rfl (WO.store1 rfl rfl rfl (by rfl) (Pick.tail (Pick.head)) rfl (WO.nil ?_))))
  (repeat (first | exact Sub.nil | refine Sub.cons (by repeat first | exact .head | apply Pick.tail) ?_))
 rw [plcV_len,List.take_length,xwP_all tv]
 refine W.sreg (WO.field0 rfl rfl rfl (WO.load rfl rfl (Cell.own (Pick.tail (Pick.tail (Pick.tail (Pick.tail (Pick.head))))) rfl) rfl (WO.fieldL rfl rfl rfl (WO.load rfl rfl (Cell.own (Pick.tail (Pick.tail (Pick.tail (Pick.tail (Pick.head))))) rfl) rfl (WO.ar rfl rfl rfl (by (first | exact in64B p1 (by decide))) rfl (WO.load rfl rfl (Cell.own (Pick.tail (Pick.tail (Pick.tail (Pick.head)))) rfl) rfl (WO.ar rfl rfl rfl (by (first | exact in64B p2 (by decide))) rfl (WO.callR rfl Tryz.call119 (fun L w hi=>c_fraction w _ _ p2.1 (by omega) (in64B p2 (by decide)) (by unfold in64;omega)) rfl ?_))))))))
 refine WO.storeA rfl rfl rfl rfl (Pick.tail (Pick.tail (Pick.tail (Pick.tail (Pick.tail (Pick.tail (Pick.head))))))) rfl rfl (WO.nil (W.ret ?_))
 exact fin.ret (Res.one rfl (RV.cell rfl rfl rfl (Cells.own Pick.head))) rfl
end Go.Proofs.YtncjabmlkgacdaaGreat.Bx
namespace Go.Proofs.YtncjabmlkgacdaaGreat.Bx
open Go Go.TH
attribute [local irreducible] W WO pt
set_option maxRecDepth 10000
set_option maxHeartbeats 1000000
section
variable {sp st:Int} {rows:List (List (Int × Int))} {ys:List (List Int)} {what:Int}
theorem TV.tf (hv:HV sp st rows) (tv:TV rows ys) (num den:Int) {i k:Nat} (hi:i<rows.length) (hk:k<(rows.getD i []).length):TF sp st num den rows.length (rows.getD i []).length i k (yy ys i k):=by
 have h1:=hv.n;have h2:=hv.m;have h3:=hv.eq i hi
 exact TF.of hv.sp hv.st (by omega) (by omega) (tv.yB hv hi hk)
end
end Go.Proofs.YtncjabmlkgacdaaGreat.Bx
namespace Go.Proofs.YtncjabmlkgacdaaGreat.Bx
open Go Go.TH
attribute [local irreducible] W WO pt
set_option maxRecDepth 10000
set_option maxHeartbeats 1000000
structure ChooseOK (f:Nat) (high:Bool):Prop where
 run:∀ (w:World) (i k:Int) (r:Int × Int),Ret Tryz.prog f [.int .i64 i,.int .i64 k,.agg (encP r).toArray].toArray w (.int .i64 (pickE high r))
 call:∀ (args:Array Value) (w:World),(callFunc f args).run Tryz.prog w=.ok (.enter f args) w
theorem ch_52:ChooseOK 59 false:=by
 refine ⟨fun w i k r=>?_,Tryz.call59⟩
 refine Ret.of mixed tyTab Tryz.func59 rfl rfl (W.sreg (WO.boxA rfl rfl (fun b1 hb1=>(WO.p rfl rfl (WO.nil (W.sreg (WO.field0 rfl rfl rfl (WO.load rfl rfl (Cell.own Pick.head rfl) rfl (WO.p rfl rfl (WO.nil (W.ret ?_)))))))))))
 exact fin.ret (Res.one rfl (RV.tmp rfl)) rfl
theorem ch_53:ChooseOK 60 true:=by
 refine ⟨fun w i k r=>?_,Tryz.call60⟩
 refine Ret.of mixed tyTab Tryz.func60 rfl rfl (W.sreg (WO.boxA rfl rfl (fun b1 hb1=>(WO.p rfl rfl (WO.nil (W.sreg (WO.fieldL rfl rfl rfl (WO.load rfl rfl (Cell.own Pick.head rfl) rfl (WO.p rfl rfl (WO.nil (W.ret ?_)))))))))))
 exact fin.ret (Res.one rfl (RV.tmp rfl)) rfl
theorem part_set {α β:Type} {f:α→β} {l:List α} {k:Nat} (h:k<l.length) (z:α) (u:β):((l.take k).map f++List.replicate (l.length-k) u).set k (f (l.getD k z))=(l.take (k+1)).map f++List.replicate (l.length-(k+1)) u:=by
 rw [take_succ_getD h z,List.map_append,List.set_append_right _ _ (by simp;omega)]
 obtain ⟨m,hm⟩:∃ m,l.length-k=m+1:=⟨l.length-k-1,by omega⟩
 rw [hm,show l.length-(k+1)=m by omega,List.replicate_succ]
 simp [Nat.min_eq_left (Nat.le_of_lt h)]
theorem part_full {α β:Type} {f:α→β} {l:List α} {k:Nat} (h:¬ (k:Int)<(l.length:Int)) (u:β):(l.take k).map f++List.replicate (l.length-k) u=l.map f:=by
 rw [List.take_of_length_le (by omega),show l.length-k=0 by omega];simp
theorem part_none {α β:Type} (f:α→β) (l:List α) (u:β):List.replicate l.length u=(l.take 0).map f++List.replicate (l.length-0) u:=by simp
theorem c_pick (w:World) (sp st:Int) (o:Value) (rv:List Value) (rows:List (List (Int × Int))) (f:Nat) (high:Bool) (hf:ChooseOK f high) (hR:RdR encP 2 w.heap.size w o rv rows) (hsm:rows.length≤1000) (hsm2:∀ r∈rows,r.length≤1000) :
 Ct Tryz.prog 58 [.agg #[.int .i64 sp,.int .i64 st,o],.func (.func f) #[] #[]].toArray w fun v w'=>∃ Hq,(∃ rv',Hq=[OwC 35 1 v rows.length rv',RowsE encI 2 1 rv' (endsOf high rows)])∧Inv w [] Hq w':=by
 refine Ct.of mixed tyTab Tryz.func58 rfl rfl ?_
 replace hR:RdR encP 2 (fnCx mixed tyTab Tryz.f58.ntmps w).B (fnCx mixed tyTab Tryz.f58.ntmps w).w0 o rv rows:=hR
 have hle:=hR.sl.le
 refine W.sreg (WO.boxA rfl rfl (fun b1 hb1=>(WO.p rfl rfl (WO.nil (W.sreg (WO.p rfl rfl (WO.nil (W.seq (W.sreg (WO.fieldL rfl rfl rfl (WO.load rfl rfl (Cell.own Pick.head rfl) rfl ?_)))))))))))
 refine' WO.len (n:=_) rfl rfl ?hs rfl ?_
 case hs=>(exact hR.sl)
 refine WO.p rfl rfl (WO.nil (W.block (W.chg (owcNil (e:=35) (sz:=1)) (W.chg (rowsNil (enc:=encI) (e:=2) (sz:=1)) ?_))))
 refine W.loop3 (fun (i:Nat) (v:Value) (rv':List Value)=>i≤rows.length)
  (fun (i:Nat) (v:Value) (rv':List Value)=>[(14,.int .i64 (i:Int)),(13,.int .i64 (rows.length:Int)),(12,o),(5,v),(1,.func (.func f) #[] #[]),(2,.pointer (some ⟨b1,0,none⟩))])
  (fun (i:Nat) (v:Value) (rv':List Value)=>[pt b1 (.cells #[.int .i64 sp,.int .i64 st,o] 78 (0,0)),OwC 35 1 v i rv',RowsE encI 2 1 rv' (endsOf high (rows.take i))])
  (fun (i:Nat) (v:Value) (rv':List Value)=>rows.length-i) 0 (.slice none 0 0) []
  (by omega) ⟨rfl,rfl,rfl,rfl,rfl,rfl,trivial⟩ (by repeat (first | exact Sub.nil | refine Sub.cons (by repeat first | exact .head | apply Pick.tail) ?_)) ?_
 rintro i v rv' hi
 refine W.sreg (WO.p rfl rfl (WO.nil (W.seq ?_)))
 refine W.cond_bl rfl (fun c1=>?_) (fun c1=>?_)
 ·refine W.skip (W.seq (W.block (W.sreg (WO.p rfl rfl ?_))))
  refine' WO.indexAddr (n:=_) (i:=_) rfl rfl rfl ?hs ?h1 rfl ?_
  case hs=>(exact hR.sl)
  case h1=>(omega)
  refine' WO.load (v:=_) rfl rfl ?hc rfl ?_
  case hc=>((refine hR.cellV ?_;omega))
  refine WO.p rfl rfl (WO.p rfl rfl (WO.nil (W.sreg (WO.p rfl rfl ?_))))
  refine' WO.len (n:=_) rfl rfl ?hs rfl ?_
  case hs=>((refine (hR.row _ ?_).sl;omega))
  refine WO.makeI rfl rfl rfl rfl (by have:=hsm2 _ (getD_mem (show i<rows.length by omega) []);omega) (by have:=hsm2 _ (getD_mem (show i<rows.length by omega) []);omega) rfl (fun lb=>?_)
  rw [part_none (pickE high) (rows.getD i []) 0]
  refine WO.p rfl rfl (WO.nil (W.seq (W.sreg (WO.p rfl rfl ?_))))
  refine' WO.len (n:=_) rfl rfl ?hs rfl ?_
  case hs=>((refine (hR.row _ ?_).sl;omega))
  refine WO.p rfl rfl (WO.nil (W.block ?_))
  refine W.loop (fun (k:Nat)=>k≤(rows.getD i []).length)
   (fun (k:Nat)=>[(14,.int .i64 (i:Int)),(13,.int .i64 (rows.length:Int)),(12,o),(24,.int .i64 (k:Int)),(23,.int .i64 ((rows.getD i []).length:Int)),(22,rv.getD i undef),(8,.slice (some ⟨lb,0,none⟩) (rows.getD i []).length (rows.getD i []).length),(6,.int .i64 (i:Int)),(5,v),(1,.func (.func f) #[] #[]),(2,.pointer (some ⟨b1,0,none⟩))])
   (fun (k:Nat)=>[pt b1 (.cells #[.int .i64 sp,.int .i64 st,o] 78 (0,0)),OwE encI 2 1 (.slice (some ⟨lb,0,none⟩) (rows.getD i []).length (rows.getD i []).length) (((rows.getD i []).take k).map (pickE high)++List.replicate ((rows.getD i []).length-k) 0),OwC 35 1 v i rv',RowsE encI 2 1 rv' (endsOf high (rows.take i))])
   (fun (k:Nat)=>(rows.getD i []).length-k) 0
   (by omega) ⟨rfl,rfl,rfl,rfl,rfl,rfl,rfl,rfl,rfl,rfl,rfl,trivial⟩ (by repeat (first | exact Sub.nil | refine Sub.cons (by repeat first | exact .head | apply Pick.tail) ?_)) ?_
  rintro k hk
  have hlk:=(hR.row i (by omega)).sl.le
  refine W.sreg (WO.p rfl rfl (WO.nil (W.seq ?_)))
  refine W.cond_bl rfl (fun c2=>?_) (fun c2=>?_)
  ·refine W.skip (W.seq (W.block (W.sreg (WO.p rfl rfl ?_))))
   refine' WO.indexAddr (n:=_) (i:=_) rfl rfl rfl ?hs ?h1 rfl ?_
   case hs=>((refine (hR.row _ ?_).sl;omega))
   case h1=>(omega)
   refine' WO.loadA (vs:=_) rfl rfl ?hc ?hl rfl ?_
   case hc=>((refine (hR.row _ ?_).cells ?_ (0,0) <;> omega))
   case hl=>rfl
   refine WO.alloc rfl rfl rfl (fun b2 hb2=>(WO.p rfl rfl (WO.storeA rfl rfl rfl rfl Pick.head rfl rfl (WO.nil (W.region (WO.p rfl rfl (WO.p rfl rfl (WO.p rfl rfl (WO.p rfl rfl (WO.p rfl rfl (WO.loadA rfl rfl (Cells.own Pick.head) rfl rfl (WO.callCR (first:=[]) (captured:=[]) rfl rfl hf.call (fun L w hi=>hf.run w i k ((rows.getD i []).getD k (0,0))) rfl (WO.indexAddr rfl rfl rfl (isSl_lit (by omega)) (by omega) rfl (WO.storeE encI_ok rfl rfl rfl rfl (by repeat first | exact .head | apply Pick.tail) (by rw [List.length_append,List.length_map,List.length_take,List.length_replicate];omega) ?_))))))))))))))
   rw [part_set (by omega)]
   refine WO.nil (W.region (WO.ar rfl rfl rfl (by (first | (unfold in64;omega))) rfl (WO.p rfl rfl (WO.nil ?_))))
   refine' ⟨k+1,?hp,?hmu,⟨rfl,rfl,rfl,rfl,rfl,rfl,rfl,rfl,rfl,rfl,rfl,trivial⟩,?hS⟩
   case hS=>repeat (first | exact Sub.nil | refine Sub.cons (by repeat first | exact .head | apply Pick.tail) ?_)
   case hp=>omega
   case hmu=>omega
  ·refine W.exit (blk_same (W.region (WO.p rfl rfl (WO.p rfl rfl (WO.buildSl rfl rfl rfl rfl rfl rfl rfl rfl rfl (fun v3=>?_))))))
   refine' WO.append (m:=1) (news:=[.slice (some ⟨lb,0,none⟩) (rows.getD i []).length (rows.getD i []).length]) rfl rfl rfl rfl rfl (by repeat first | exact .head | apply Pick.tail) (isSl_lit (by omega)) (by omega) (OwC.cells (by repeat exact .head)) rfl (by simp [Value.oneCell']) (by omega) (by omega) rfl (fun g c'=>?_)
   refine WO.p rfl rfl (WO.nil (W.chg (rowsSnoc (enc:=encI) (e:=2) (sz:=1) (by repeat first | exact .head | apply Pick.tail) (by repeat first | exact .head | apply Pick.tail)) ?_))
   rw [part_full (by assumption),show endsOf high (rows.take i)++[(rows.getD i []).map (pickE high)]=endsOf high (rows.take (i+1)) from map_take_succ (l:=rows) (i:=i) (by omega) [] (fun r=>r.map (pickE high))]
   refine W.region (WO.ar rfl rfl rfl (by (first | (unfold in64;omega))) rfl (WO.p rfl rfl (WO.nil ?_)))
   refine' ⟨i+1,_,_,?hp,?hmu,⟨rfl,rfl,rfl,rfl,rfl,rfl,trivial⟩,?hS⟩
   case hS=>repeat (first | exact Sub.nil | refine Sub.cons (by repeat first | exact .head | apply Pick.tail) ?_)
   case hp=>omega
   case hmu=>omega
 ·refine W.exit (blk_same (W.chg (H':=[OwC 35 1 v i rv',RowsE encI 2 1 rv' (endsOf high (rows.take i))]) (fun h hs=>Sub.sat (.cons (.tail .head) (.cons (.tail .head) .nil)) hs) ?_))
  obtain rfl:i=rows.length:=by omega
  refine W.sreg (WO.p rfl rfl (WO.p rfl rfl (WO.nil (W.ret ?_))))
  exact fin.ret (Res.one rfl (RV.tmp rfl)) ⟨rv',by rw [List.take_length]⟩
end Go.Proofs.YtncjabmlkgacdaaGreat.Bx
namespace Go.Proofs.YtncjabmlkgacdaaGreat.Bx
open Go Go.TH
attribute [local irreducible] W WO pt
set_option maxRecDepth 10000
set_option maxHeartbeats 1000000
section
variable {sp st:Int} {rows:List (List (Int × Int))} {what:Int}
end
theorem ends_row (rows:List (List (Int × Int))) (high:Bool) (i:Nat):(endsOf high rows).getD i []=(rows.getD i []).map (pickE high):=by
 unfold endsOf
 simp only [List.getD_eq_getElem?_getD,List.getElem?_map]
 cases rows[i]? <;> rfl
theorem ends_y (rows:List (List (Int × Int))) (high:Bool) {i k:Nat} (hk:k<(rows.getD i []).length):yy (endsOf high rows) i k=pickE high ((rows.getD i []).getD k (0,0)):=by
 unfold yy;rw [ends_row]
 rw [List.getD_eq_getElem?_getD,List.getElem?_map,getD_some hk (0,0)];rfl
theorem ends_tv {sp st:Int} {rows:List (List (Int × Int))} (hv:HV sp st rows) (high:Bool):TV rows (endsOf high rows):=by
 have hl:(endsOf high rows).length=rows.length:=by simp [endsOf]
 refine ⟨hl,fun i _=>by rw [ends_row,List.length_map],fun i k hi hk=>?_⟩
 rw [ends_row,List.length_map] at hk
 rw [ends_y rows high hk]
 have:=hv.ok i k (by omega) hk
 unfold pickE
 split <;> omega
theorem vols_o {sp st:Int} {rows:List (List (Int × Int))} (hv:HV sp st rows):.tuple #[.agg (encP (volQ sp st (endsOf false rows))++encP (volQ sp st (endsOf true rows))).toArray,.int .i64 0]=volsR sp st rows:=by
 rw [← volsR_0 hv.to]
 unfold volV
 rw [if_pos (TV.to hv (ends_tv hv false)),if_pos (TV.to hv (ends_tv hv true))]
theorem c_Volumes (w:World) (sp st:Int) (o:Value) (rv:List Value) (rows:List (List (Int × Int))) (hR:RdR encP 2 w.heap.size w o rv rows) :
 Ret Tryz.prog 24 [.agg #[.int .i64 sp,.int .i64 st,o]].toArray w (volsR sp st rows):=by
 refine Ret.of mixed tyTab Tryz.func24 rfl rfl ?_
 replace hR:RdR encP 2 (fnCx mixed tyTab Tryz.f24.ntmps w).B (fnCx mixed tyTab Tryz.f24.ntmps w).w0 o rv rows:=hR
 refine W.sreg (WO.boxA rfl rfl (fun b1 hb1=>(WO.alloc rfl rfl rfl (fun b2 hb2=>(WO.p rfl rfl (WO.nil (W.seq (W.sreg (WO.loadA rfl rfl (Cells.own (Pick.tail (Pick.head))) rfl rfl (WO.callR (r:=.int .i64 (chkHull sp st rows)) rfl Tryz.call57 (fun L w hi=>c_CheckHull w sp st o rv rows (hR.later hi)) rfl (WO.p rfl rfl (WO.nil (W.sreg (WO.p rfl rfl (WO.p rfl rfl (WO.nil ?_))))))))))))))))
 refine W.cond_bl rfl (fun c1=>?_) (fun c1=>?_)
 ·refine W.sreg (WO.build rfl rfl rfl rfl rfl (WO.p rfl rfl (WO.storeA rfl rfl rfl rfl Pick.head rfl rfl (WO.p rfl rfl (WO.nil (W.ret (fin.ret (Res.two rfl (RV.cell rfl rfl rfl (Cells.own Pick.head)) (RV.tmp rfl)) ?_)))))))
  exact volsR_1 (by omega)
 ·refine W.skip (W.sreg (WO.loadA rfl rfl (Cells.own (Pick.tail (Pick.head))) rfl rfl ?_))
  have hv:=HV.of (sp:=sp) (st:=st) (rows:=rows) (by omega)
  have hs:=hv.small
  refine WO.call (Post:=fun v Hq=>∃ rv',Hq=[OwC 35 1 v rows.length rv',RowsE encI 2 1 rv' (endsOf false rows)]) rfl Tryz.call58 (fun L w hi=>c_pick w sp st o rv rows _ false ch_52 (hR.later hi) hs.1 hs.2) rfl ?_
  rintro v1 _ ⟨rv1,rfl⟩
  refine WO.p rfl rfl (WO.nil (W.sreg (WO.loadA rfl rfl (Cells.own (Pick.tail (Pick.tail (Pick.tail (Pick.head))))) rfl rfl (WO.call (Post:=fun v Hq=>∃ rv',Hq=[OwC 35 1 v rows.length rv',RowsE encI 2 1 rv' (endsOf true rows)]) rfl Tryz.call58 (fun L w hi=>c_pick w sp st o rv rows _ true ch_53 (hR.later hi) hs.1 hs.2) rfl ?_))))
  rintro v2 _ ⟨rv2,rfl⟩
  refine WO.p rfl rfl (WO.nil (W.seq ?_))
  refine W.drawD 5 [.b 0 [],.r 1 [],.b 2 [],.b 3 [],.r 4 []] [] (A0:=[]) (Sub.refl _) (by kernel_rfl) ?_ ?_
  ·repeat constructor
  refine DT.b rfl rfl rfl (WO.loadA rfl rfl (Cells.own (Pick.tail (Pick.tail (Pick.tail (Pick.tail (Pick.tail (Pick.head))))))) rfl rfl (WO.nil ⟨rfl,rfl⟩)) (DT.r rfl rfl rfl (WO.p rfl rfl (WO.nil ⟨rfl,rfl⟩)) (DT.b rfl rfl rfl (WO.callR rfl Tryz.call61 (fun L w hi=>c_volume w sp st o v1 rv rv1 rows (endsOf false rows) (hR.later hi) (RdR.of_ow encI_ok (by repeat first | exact .head | apply Pick.tail) (by repeat first | exact .head | apply Pick.tail) hi) hv (ends_tv hv false)) rfl (WO.nil ⟨rfl,rfl⟩)) (DT.b rfl rfl rfl (WO.loadA rfl rfl (Cells.own (Pick.tail (Pick.tail (Pick.tail (Pick.tail (Pick.tail (Pick.head))))))) rfl rfl (WO.nil ⟨rfl,rfl⟩)) ?_)))
  refine DT.r rfl rfl rfl (WO.p rfl rfl (WO.nil ⟨rfl,rfl⟩)) (DT.nil [_,_,_,_,_,_] rfl (WO.callR rfl Tryz.call61 (fun L w hi=>c_volume w sp st o v2 rv rv2 rows (endsOf true rows) (hR.later hi) (RdR.of_ow encI_ok (by repeat exact .head) (by repeat first | exact .head | apply Pick.tail) hi) hv (ends_tv hv true)) rfl (WO.build rfl rfl rfl rfl rfl (WO.storeA rfl rfl rfl rfl (Pick.tail (Pick.tail (Pick.tail (Pick.tail (Pick.head))))) rfl rfl (WO.p rfl rfl (WO.nil (W.ret (fin.ret (Res.two rfl (RV.cell rfl rfl rfl (Cells.own Pick.head)) (RV.tmp rfl)) ?_))))))))
  exact vols_o hv
end Go.Proofs.YtncjabmlkgacdaaGreat.Bx
namespace Go.TX
open Go Go.TH
structure N16 (α:Type) where
 (a0 a1 a2 a3 a4 a5 a6 a7 a8 a9 aa ab ac ad ae af:α)
def N16.all {α:Type} (x:α):N16 α:=⟨x,x,x,x,x,x,x,x,x,x,x,x,x,x,x,x⟩
structure Sel (α β:Type) where
 g:N16 α→α
 s:N16 α→α→(N16 α→β)→β
noncomputable def slt0 (α β:Type):Sel α β:=⟨fun x=>x.a0,fun x v k=>N16.rec (motive:=fun _=>α→(N16 α→β)→β) (fun a0 a1 a2 a3 a4 a5 a6 a7 a8 a9 aa ab ac ad ae af v k=>k ⟨v,a1,a2,a3,a4,a5,a6,a7,a8,a9,aa,ab,ac,ad,ae,af⟩) x v k⟩
noncomputable def slt1 (α β:Type):Sel α β:=⟨fun x=>x.a1,fun x v k=>N16.rec (motive:=fun _=>α→(N16 α→β)→β) (fun a0 a1 a2 a3 a4 a5 a6 a7 a8 a9 aa ab ac ad ae af v k=>k ⟨a0,v,a2,a3,a4,a5,a6,a7,a8,a9,aa,ab,ac,ad,ae,af⟩) x v k⟩
noncomputable def slt2 (α β:Type):Sel α β:=⟨fun x=>x.a2,fun x v k=>N16.rec (motive:=fun _=>α→(N16 α→β)→β) (fun a0 a1 a2 a3 a4 a5 a6 a7 a8 a9 aa ab ac ad ae af v k=>k ⟨a0,a1,v,a3,a4,a5,a6,a7,a8,a9,aa,ab,ac,ad,ae,af⟩) x v k⟩
noncomputable def slt3 (α β:Type):Sel α β:=⟨fun x=>x.a3,fun x v k=>N16.rec (motive:=fun _=>α→(N16 α→β)→β) (fun a0 a1 a2 a3 a4 a5 a6 a7 a8 a9 aa ab ac ad ae af v k=>k ⟨a0,a1,a2,v,a4,a5,a6,a7,a8,a9,aa,ab,ac,ad,ae,af⟩) x v k⟩
noncomputable def slt4 (α β:Type):Sel α β:=⟨fun x=>x.a4,fun x v k=>N16.rec (motive:=fun _=>α→(N16 α→β)→β) (fun a0 a1 a2 a3 a4 a5 a6 a7 a8 a9 aa ab ac ad ae af v k=>k ⟨a0,a1,a2,a3,v,a5,a6,a7,a8,a9,aa,ab,ac,ad,ae,af⟩) x v k⟩
noncomputable def slt5 (α β:Type):Sel α β:=⟨fun x=>x.a5,fun x v k=>N16.rec (motive:=fun _=>α→(N16 α→β)→β) (fun a0 a1 a2 a3 a4 a5 a6 a7 a8 a9 aa ab ac ad ae af v k=>k ⟨a0,a1,a2,a3,a4,v,a6,a7,a8,a9,aa,ab,ac,ad,ae,af⟩) x v k⟩
noncomputable def slt6 (α β:Type):Sel α β:=⟨fun x=>x.a6,fun x v k=>N16.rec (motive:=fun _=>α→(N16 α→β)→β) (fun a0 a1 a2 a3 a4 a5 a6 a7 a8 a9 aa ab ac ad ae af v k=>k ⟨a0,a1,a2,a3,a4,a5,v,a7,a8,a9,aa,ab,ac,ad,ae,af⟩) x v k⟩
noncomputable def slt7 (α β:Type):Sel α β:=⟨fun x=>x.a7,fun x v k=>N16.rec (motive:=fun _=>α→(N16 α→β)→β) (fun a0 a1 a2 a3 a4 a5 a6 a7 a8 a9 aa ab ac ad ae af v k=>k ⟨a0,a1,a2,a3,a4,a5,a6,v,a8,a9,aa,ab,ac,ad,ae,af⟩) x v k⟩
noncomputable def slt8 (α β:Type):Sel α β:=⟨fun x=>x.a8,fun x v k=>N16.rec (motive:=fun _=>α→(N16 α→β)→β) (fun a0 a1 a2 a3 a4 a5 a6 a7 a8 a9 aa ab ac ad ae af v k=>k ⟨a0,a1,a2,a3,a4,a5,a6,a7,v,a9,aa,ab,ac,ad,ae,af⟩) x v k⟩
noncomputable def slt9 (α β:Type):Sel α β:=⟨fun x=>x.a9,fun x v k=>N16.rec (motive:=fun _=>α→(N16 α→β)→β) (fun a0 a1 a2 a3 a4 a5 a6 a7 a8 a9 aa ab ac ad ae af v k=>k ⟨a0,a1,a2,a3,a4,a5,a6,a7,a8,v,aa,ab,ac,ad,ae,af⟩) x v k⟩
noncomputable def slta (α β:Type):Sel α β:=⟨fun x=>x.aa,fun x v k=>N16.rec (motive:=fun _=>α→(N16 α→β)→β) (fun a0 a1 a2 a3 a4 a5 a6 a7 a8 a9 aa ab ac ad ae af v k=>k ⟨a0,a1,a2,a3,a4,a5,a6,a7,a8,a9,v,ab,ac,ad,ae,af⟩) x v k⟩
noncomputable def sltb (α β:Type):Sel α β:=⟨fun x=>x.ab,fun x v k=>N16.rec (motive:=fun _=>α→(N16 α→β)→β) (fun a0 a1 a2 a3 a4 a5 a6 a7 a8 a9 aa ab ac ad ae af v k=>k ⟨a0,a1,a2,a3,a4,a5,a6,a7,a8,a9,aa,v,ac,ad,ae,af⟩) x v k⟩
noncomputable def sltc (α β:Type):Sel α β:=⟨fun x=>x.ac,fun x v k=>N16.rec (motive:=fun _=>α→(N16 α→β)→β) (fun a0 a1 a2 a3 a4 a5 a6 a7 a8 a9 aa ab ac ad ae af v k=>k ⟨a0,a1,a2,a3,a4,a5,a6,a7,a8,a9,aa,ab,v,ad,ae,af⟩) x v k⟩
noncomputable def sltd (α β:Type):Sel α β:=⟨fun x=>x.ad,fun x v k=>N16.rec (motive:=fun _=>α→(N16 α→β)→β) (fun a0 a1 a2 a3 a4 a5 a6 a7 a8 a9 aa ab ac ad ae af v k=>k ⟨a0,a1,a2,a3,a4,a5,a6,a7,a8,a9,aa,ab,ac,v,ae,af⟩) x v k⟩
noncomputable def slte (α β:Type):Sel α β:=⟨fun x=>x.ae,fun x v k=>N16.rec (motive:=fun _=>α→(N16 α→β)→β) (fun a0 a1 a2 a3 a4 a5 a6 a7 a8 a9 aa ab ac ad ae af v k=>k ⟨a0,a1,a2,a3,a4,a5,a6,a7,a8,a9,aa,ab,ac,ad,v,af⟩) x v k⟩
noncomputable def sltf (α β:Type):Sel α β:=⟨fun x=>x.af,fun x v k=>N16.rec (motive:=fun _=>α→(N16 α→β)→β) (fun a0 a1 a2 a3 a4 a5 a6 a7 a8 a9 aa ab ac ad ae af v k=>k ⟨a0,a1,a2,a3,a4,a5,a6,a7,a8,a9,aa,ab,ac,ad,ae,v⟩) x v k⟩
noncomputable def sel (α β:Type) (n:Nat):Sel α β:=Nat.rec (motive:=fun _=>Sel α β) (slt0 α β) (fun n _=>Nat.rec (motive:=fun _=>Sel α β) (slt1 α β) (fun n _=>Nat.rec (motive:=fun _=>Sel α β) (slt2 α β) (fun n _=>Nat.rec (motive:=fun _=>Sel α β) (slt3 α β) (fun n _=>Nat.rec (motive:=fun _=>Sel α β) (slt4 α β) (fun n _=>Nat.rec (motive:=fun _=>Sel α β) (slt5 α β) (fun n _=>Nat.rec (motive:=fun _=>Sel α β) (slt6 α β) (fun n _=>Nat.rec (motive:=fun _=>Sel α β) (slt7 α β) (fun n _=>Nat.rec (motive:=fun _=>Sel α β) (slt8 α β) (fun n _=>Nat.rec (motive:=fun _=>Sel α β) (slt9 α β) (fun n _=>Nat.rec (motive:=fun _=>Sel α β) (slta α β) (fun n _=>Nat.rec (motive:=fun _=>Sel α β) (sltb α β) (fun n _=>Nat.rec (motive:=fun _=>Sel α β) (sltc α β) (fun n _=>Nat.rec (motive:=fun _=>Sel α β) (sltd α β) (fun n _=>Nat.rec (motive:=fun _=>Sel α β) (slte α β) (fun n _=>sltf α β) n) n) n) n) n) n) n) n) n) n) n) n) n) n) n
theorem sel_cases {p:Nat→Prop} (h0:p 0) (h1:p 1) (h2:p 2) (h3:p 3) (h4:p 4) (h5:p 5) (h6:p 6) (h7:p 7) (h8:p 8) (h9:p 9) (h10:p 10) (h11:p 11) (h12:p 12) (h13:p 13) (h14:p 14) (h15:p 15):∀ i,i<16→p i
 | 0,_=>h0
 | 1,_=>h1
 | 2,_=>h2
 | 3,_=>h3
 | 4,_=>h4
 | 5,_=>h5
 | 6,_=>h6
 | 7,_=>h7
 | 8,_=>h8
 | 9,_=>h9
 | 10,_=>h10
 | 11,_=>h11
 | 12,_=>h12
 | 13,_=>h13
 | 14,_=>h14
 | 15,_=>h15
 | n+16,h=>absurd h (by omega)
theorem sel_s {α β:Type} (x:N16 α) (v:α) (k:N16 α→β):∀ i,i<16→(sel α β i).s x v k=k ((sel α (N16 α) i).s x v id):=by
 refine sel_cases ?_ ?_ ?_ ?_ ?_ ?_ ?_ ?_ ?_ ?_ ?_ ?_ ?_ ?_ ?_ ?_ <;> rfl
theorem sel_gs {α:Type} (β:Type) (x:N16 α) (v:α):∀ i,i<16→∀ j,j<16→(sel α β j).g ((sel α (N16 α) i).s x v id)=if j=i then v else (sel α β j).g x:=by
 refine sel_cases ?_ ?_ ?_ ?_ ?_ ?_ ?_ ?_ ?_ ?_ ?_ ?_ ?_ ?_ ?_ ?_ <;> refine sel_cases ?_ ?_ ?_ ?_ ?_ ?_ ?_ ?_ ?_ ?_ ?_ ?_ ?_ ?_ ?_ ?_ <;> rfl
theorem sel_all {α:Type} (β:Type) (x:α):∀ i,i<16→(sel α β i).g (N16.all x)=x:=by
 refine sel_cases ?_ ?_ ?_ ?_ ?_ ?_ ?_ ?_ ?_ ?_ ?_ ?_ ?_ ?_ ?_ ?_ <;> rfl
inductive Ob (α:Type) where
 | lf
 | nd (v:Option α) (l r:Ob α)
namespace Ob
variable {α:Type}
def get:Ob α→Nat→Option α
 | .lf,_=>none
 | .nd v l r,n=>match n with
  | 0=>v
  | m+1=>bif Nat.beq (m%2) 0 then l.get (m/2) else r.get (m/2)
def one (x:Option α):Nat→Nat→Ob α
 | 0,_=>.lf
 | f+1,n=>match n with
  | 0=>.nd x .lf .lf
  | m+1=>bif Nat.beq (m%2) 0 then .nd none (one x f (m/2)) .lf else .nd none .lf (one x f (m/2))
def set:Ob α→Nat→Option α→Ob α
 | .lf,n,x=>one x (n+1) n
 | .nd v l r,n,x=>match n with
  | 0=>.nd x l r
  | m+1=>bif Nat.beq (m%2) 0 then .nd v (l.set (m/2) x) r else .nd v l (r.set (m/2) x)
theorem get_lf (n:Nat):(lf:Ob α).get n=none:=rfl
theorem get_one (x:Option α):∀ (f n k:Nat),n<f→(one x f n).get k=if k=n then x else none
 | 0,_,_,h=>by omega
 | f+1,n,k,h=>by
  cases n with
  | zero=>cases k <;> simp [one,get]
  | succ m =>
   simp only [one]
   have hm:m/2<f:=by omega
   cases k with
   | zero=>cases hb:Nat.beq (m%2) 0 <;> simp [get]
   | succ j =>
    cases hb:Nat.beq (m%2) 0 <;> cases hj:Nat.beq (j%2) 0 <;> simp only [cond_true,cond_false,get,hj]
    ·rw [get_one x f _ _ hm]
     have hb':m%2≠0:=fun e=>by rw [e] at hb;cases hb
     have hj':j%2≠0:=fun e=>by rw [e] at hj;cases hj
     by_cases e:j=m
     ·subst e;simp
     ·rw [if_neg (by omega),if_neg (by omega)]
    ·rw [if_neg]
     intro e
     have:j=m:=by omega
     subst this;rw [hb] at hj;cases hj
    ·rw [if_neg]
     intro e
     have:j=m:=by omega
     subst this;rw [hb] at hj;cases hj
    ·rw [get_one x f _ _ hm]
     have hb':m%2=0:=Nat.eq_of_beq_eq_true hb
     have hj':j%2=0:=Nat.eq_of_beq_eq_true hj
     by_cases e:j=m
     ·subst e;simp
     ·rw [if_neg (by omega),if_neg (by omega)]
theorem get_set:∀ (t:Ob α) (n k:Nat) (x:Option α),(t.set n x).get k=if k=n then x else t.get k
 | .lf,n,k,x=>by rw [set,get_one x (n+1) n k (by omega)];simp [get]
 | .nd v l r,n,k,x=>by
  cases n with
  | zero=>cases k <;> simp [set,get]
  | succ m =>
   cases k with
   | zero=>cases hb:Nat.beq (m%2) 0 <;> simp [set,get,hb]
   | succ j =>
    simp only [set]
    cases hb:Nat.beq (m%2) 0 <;> cases hj:Nat.beq (j%2) 0 <;> simp only [cond_true,cond_false,get,hj]
    ·rw [get_set r]
     have hb':m%2≠0:=fun e=>by rw [e] at hb;cases hb
     have hj':j%2≠0:=fun e=>by rw [e] at hj;cases hj
     by_cases e:j=m
     ·subst e;simp
     ·rw [if_neg (by omega),if_neg (by omega)]
    ·rw [if_neg]
     intro e
     have:j=m:=by omega
     subst this;rw [hb] at hj;cases hj
    ·rw [if_neg]
     intro e
     have:j=m:=by omega
     subst this;rw [hb] at hj;cases hj
    ·rw [get_set l]
     have hb':m%2=0:=Nat.eq_of_beq_eq_true hb
     have hj':j%2=0:=Nat.eq_of_beq_eq_true hj
     by_cases e:j=m
     ·subst e;simp
     ·rw [if_neg (by omega),if_neg (by omega)]
end Ob
structure Tr (α:Type) where
 lo:N16 (N16 (Option α))
 hi:N16 (N16 (N16 (N16 (Option α))))
 up:Ob α
namespace Tr
variable {α β:Type}
def lf:Tr α:=⟨.all (.all none),.all (.all (.all (.all none))),.lf⟩
structure Acc (α β:Type) where
 g:Tr α→Option α
 s:Tr α→Option α→(Tr α→β)→β
noncomputable def acLo (x:Sel (N16 (Option α)) β) (y:Sel (Option α) β):Acc α β:=Sel.rec (motive:=fun _=>Acc α β) (fun gx sx=>Sel.rec (motive:=fun _=>Acc α β) (fun gy sy=>⟨fun t=>gy (gx t.lo),fun t v k=>Tr.rec (motive:=fun _=>Option α→(Tr α→β)→β) (fun lo hi up v k=>sy (gx lo) v fun q=>sx lo q fun lo'=>k ⟨lo',hi,up⟩) t v k⟩) y) x
noncomputable def acHi (x:Sel (N16 (N16 (N16 (Option α)))) β) (y:Sel (N16 (N16 (Option α))) β) (z:Sel (N16 (Option α)) β) (u:Sel (Option α) β):Acc α β:=Sel.rec (motive:=fun _=>Acc α β) (fun gx sx=>Sel.rec (motive:=fun _=>Acc α β) (fun gy sy=>Sel.rec (motive:=fun _=>Acc α β) (fun gz sz=>Sel.rec (motive:=fun _=>Acc α β) (fun gu su=>⟨fun t=>gu (gz (gy (gx t.hi))),fun t v k=>Tr.rec (motive:=fun _=>Option α→(Tr α→β)→β) (fun lo hi up v k=>su (gz (gy (gx hi))) v fun q=>sz (gy (gx hi)) q fun q=>sy (gx hi) q fun q=>sx hi q fun hi'=>k ⟨lo,hi',up⟩) t v k⟩) u) z) y) x
noncomputable def acUp (n:Nat):Acc α β:=⟨fun t=>t.up.get n,fun t v k=>k ⟨t.lo,t.hi,t.up.set n v⟩⟩
noncomputable def acc (n:Nat):Acc α β:=Bool.rec (motive:=fun _=>Acc α β) (Bool.rec (motive:=fun _=>Acc α β) (acUp n) (acHi (sel _ _ (Nat.div n 4096)) (sel _ _ (Nat.mod (Nat.div n 256) 16)) (sel _ _ (Nat.mod (Nat.div n 16) 16)) (sel _ _ (Nat.mod n 16))) (Nat.ble (Nat.succ n) 65536)) (acLo (sel _ _ (Nat.div n 16)) (sel _ _ (Nat.mod n 16))) (Nat.ble (Nat.succ n) 256)
noncomputable def get (t:Tr α) (n:Nat):Option α:=Acc.rec (motive:=fun _=>Option α) (fun g _=>g t) (acc (α:=α) (β:=Unit) n)
noncomputable def setK (t:Tr α) (n:Nat) (x:Option α) (k:Tr α→β):β:=Acc.rec (motive:=fun _=>β) (fun _ s=>s t x k) (acc n)
noncomputable def set (t:Tr α) (n:Nat) (x:Option α):Tr α:=setK t n x id
theorem acc_lo {n:Nat} (h:n<256):(acc n:Acc α β)=acLo (sel _ _ (n/16)) (sel _ _ (n%16)):=by
 have:Nat.ble (Nat.succ n) 256=true:=Nat.ble_eq.mpr h
 rw [acc,this];rfl
theorem acc_hi {n:Nat} (h:¬ n<256) (h':n<65536):(acc n:Acc α β)=acHi (sel _ _ (n/4096)) (sel _ _ (n/256%16)) (sel _ _ (n/16%16)) (sel _ _ (n%16)):=by
 have e:Nat.ble (Nat.succ n) 256=false:=Bool.eq_false_iff.2 (fun q=>h (by have:=Nat.ble_eq.mp q;omega))
 have e':Nat.ble (Nat.succ n) 65536=true:=Nat.ble_eq.mpr h'
 rw [acc,e,e'];rfl
theorem acc_up {n:Nat} (h:¬ n<65536):(acc n:Acc α β)=acUp n:=by
 have e:Nat.ble (Nat.succ n) 256=false:=Bool.eq_false_iff.2 (fun q=>h (by have:=Nat.ble_eq.mp q;omega))
 have e':Nat.ble (Nat.succ n) 65536=false:=Bool.eq_false_iff.2 (fun q=>h (by have:=Nat.ble_eq.mp q;omega))
 rw [acc,e,e']
theorem get_loE (t:Tr α) {n:Nat} (h:n<256):t.get n=(sel _ Unit (n%16)).g ((sel _ Unit (n/16)).g t.lo):=by
 unfold get;rw [acc_lo h]
 generalize sel (N16 (Option α)) Unit (n/16)=X;generalize sel (Option α) Unit (n%16)=Y;rfl
theorem get_hiE (t:Tr α) {n:Nat} (h:¬ n<256) (h':n<65536):t.get n=(sel _ Unit (n%16)).g ((sel _ Unit (n/16%16)).g ((sel _ Unit (n/256%16)).g ((sel _ Unit (n/4096)).g t.hi))):=by
 unfold get;rw [acc_hi h h']
 generalize sel (N16 (N16 (N16 (Option α)))) Unit (n/4096)=X;generalize sel (N16 (N16 (Option α))) Unit (n/256%16)=Y;generalize sel (N16 (Option α)) Unit (n/16%16)=Z;generalize sel (Option α) Unit (n%16)=U;rfl
theorem get_upE (t:Tr α) {n:Nat} (h:¬ n<65536):t.get n=t.up.get n:=by unfold get;rw [acc_up h];rfl
theorem get_any (t:Tr α) (n:Nat):t.get n=(acc (α:=α) (β:=β) n).g t:=by
 have hg:∀ {δ:Type} (i:Nat),i<16→(sel δ Unit i).g=(sel δ β i).g:=by
  intro δ
  refine sel_cases ?_ ?_ ?_ ?_ ?_ ?_ ?_ ?_ ?_ ?_ ?_ ?_ ?_ ?_ ?_ ?_ <;> rfl
 by_cases h:n<256
 ·rw [get_loE t h,acc_lo h,hg _ (by omega),hg _ (by omega)]
  generalize sel (N16 (Option α)) β (n/16)=X;generalize sel (Option α) β (n%16)=Y;rfl
 ·by_cases h':n<65536
  ·rw [get_hiE t h h',acc_hi h h',hg _ (by omega),hg _ (by omega),hg _ (by omega),hg _ (by omega)]
   generalize sel (N16 (N16 (N16 (Option α)))) β (n/4096)=X;generalize sel (N16 (N16 (Option α))) β (n/256%16)=Y;generalize sel (N16 (Option α)) β (n/16%16)=Z;generalize sel (Option α) β (n%16)=U;rfl
  ·rw [get_upE t h',acc_up h'];rfl
theorem setK_loE (t:Tr α) {n:Nat} (x:Option α) (k:Tr α→β) (h:n<256):t.setK n x k=k ⟨(sel _ (N16 (N16 (Option α))) (n/16)).s t.lo ((sel _ (N16 (Option α)) (n%16)).s ((sel _ Unit (n/16)).g t.lo) x id) id,t.hi,t.up⟩:=by
 unfold setK
 rw [acc_lo h]
 have hg:(sel (N16 (Option α)) β (n/16)).g=(sel (N16 (Option α)) Unit (n/16)).g:=by
  have hg:∀ {δ:Type} (i:Nat),i<16→(sel δ β i).g=(sel δ Unit i).g:=by
   intro δ
   refine sel_cases ?_ ?_ ?_ ?_ ?_ ?_ ?_ ?_ ?_ ?_ ?_ ?_ ?_ ?_ ?_ ?_ <;> rfl
  exact hg _ (by omega)
 have hX:=fun x v k=>@sel_s (N16 (Option α)) β x v k (n/16) (by omega)
 have hY:=fun x v k=>@sel_s (Option α) β x v k (n%16) (by omega)
 rw [← hg]
 generalize sel (N16 (Option α)) β (n/16)=X at *
 generalize sel (Option α) β (n%16)=Y at *
 show Y.s (X.g t.lo) x _=_
 rw [hY,hX]
theorem setK_hiE (t:Tr α) {n:Nat} (x:Option α) (k:Tr α→β) (h:¬ n<256) (h':n<65536):t.setK n x k=k ⟨t.lo,(sel _ (N16 (N16 (N16 (N16 (Option α))))) (n/4096)).s t.hi ((sel _ (N16 (N16 (N16 (Option α)))) (n/256%16)).s ((sel _ Unit (n/4096)).g t.hi) ((sel _ (N16 (N16 (Option α))) (n/16%16)).s ((sel _ Unit (n/256%16)).g ((sel _ Unit (n/4096)).g t.hi)) ((sel _ (N16 (Option α)) (n%16)).s ((sel _ Unit (n/16%16)).g ((sel _ Unit (n/256%16)).g ((sel _ Unit (n/4096)).g t.hi))) x id) id) id) id,t.up⟩:=by
 unfold setK
 rw [acc_hi h h']
 have hg:∀ {δ:Type} (i:Nat),i<16→(sel δ β i).g=(sel δ Unit i).g:=by
  intro δ
  refine sel_cases ?_ ?_ ?_ ?_ ?_ ?_ ?_ ?_ ?_ ?_ ?_ ?_ ?_ ?_ ?_ ?_ <;> rfl
 have hX:=fun x v k=>@sel_s (N16 (N16 (N16 (Option α)))) β x v k (n/4096) (by omega)
 have hY:=fun x v k=>@sel_s (N16 (N16 (Option α))) β x v k (n/256%16) (by omega)
 have hZ:=fun x v k=>@sel_s (N16 (Option α)) β x v k (n/16%16) (by omega)
 have hU:=fun x v k=>@sel_s (Option α) β x v k (n%16) (by omega)
 rw [← hg (n/4096) (by omega),← hg (n/256%16) (by omega),← hg (n/16%16) (by omega)]
 generalize sel (N16 (N16 (N16 (Option α)))) β (n/4096)=X at *
 generalize sel (N16 (N16 (Option α))) β (n/256%16)=Y at *
 generalize sel (N16 (Option α)) β (n/16%16)=Z at *
 generalize sel (Option α) β (n%16)=U at *
 show U.s (Z.g (Y.g (X.g t.hi))) x _=_
 rw [hU,hZ,hY,hX]
theorem setK_eq (t:Tr α) (n:Nat) (x:Option α) (k:Tr α→β):t.setK n x k=k (t.set n x):=by
 unfold set
 by_cases h:n<256
 ·rw [setK_loE t x k h,setK_loE t x id h];rfl
 ·by_cases h':n<65536
  ·rw [setK_hiE t x k h h',setK_hiE t x id h h'];rfl
  ·unfold setK;rw [acc_up h',acc_up h'];rfl
theorem set_loE (t:Tr α) {n:Nat} (x:Option α) (h:n<256):t.set n x=⟨(sel _ _ (n/16)).s t.lo ((sel _ _ (n%16)).s ((sel _ Unit (n/16)).g t.lo) x id) id,t.hi,t.up⟩:=setK_loE t x id h
theorem set_hiE (t:Tr α) {n:Nat} (x:Option α) (h:¬ n<256) (h':n<65536):t.set n x=⟨t.lo,(sel _ _ (n/4096)).s t.hi ((sel _ _ (n/256%16)).s ((sel _ Unit (n/4096)).g t.hi) ((sel _ _ (n/16%16)).s ((sel _ Unit (n/256%16)).g ((sel _ Unit (n/4096)).g t.hi)) ((sel _ _ (n%16)).s ((sel _ Unit (n/16%16)).g ((sel _ Unit (n/256%16)).g ((sel _ Unit (n/4096)).g t.hi))) x id) id) id) id,t.up⟩:=setK_hiE t x id h h'
theorem set_upE (t:Tr α) {n:Nat} (x:Option α) (h:¬ n<65536):t.set n x=⟨t.lo,t.hi,t.up.set n x⟩:=by
 unfold set setK
 rw [acc_up h];rfl
theorem get_lf (n:Nat):(lf:Tr α).get n=none:=by
 by_cases h:n<256
 ·rw [get_loE _ h]
  show (sel _ Unit (n%16)).g ((sel _ Unit (n/16)).g (.all (.all none)))=none
  rw [sel_all _ _ _ (by omega),sel_all _ _ _ (by omega)]
 ·by_cases h':n<65536
  ·rw [get_hiE _ h h']
   show (sel _ Unit (n%16)).g ((sel _ Unit (n/16%16)).g ((sel _ Unit (n/256%16)).g ((sel _ Unit (n/4096)).g (.all (.all (.all (.all none)))))))=none
   rw [sel_all _ _ _ (by omega),sel_all _ _ _ (by omega),sel_all _ _ _ (by omega),sel_all _ _ _ (by omega)]
  ·rw [get_upE _ h'];rfl
theorem get_set (t:Tr α) (n k:Nat) (x:Option α):(t.set n x).get k=if k=n then x else t.get k:=by
 by_cases h:n<256
 ·rw [set_loE t x h]
  by_cases hk:k<256
  ·rw [get_loE _ hk,get_loE _ hk]
   simp only
   rw [sel_gs _ _ _ _ (by omega) _ (by omega)]
   by_cases e:k/16=n/16
   ·rw [if_pos e,sel_gs _ _ _ _ (by omega) _ (by omega),e]
    by_cases e2:k%16=n%16
    ·rw [if_pos e2,if_pos (by omega)]
    ·rw [if_neg e2,if_neg (by omega)]
   ·rw [if_neg e,if_neg (by omega)]
  ·rw [if_neg (by omega)]
   by_cases hk':k<65536
   ·rw [get_hiE _ hk hk',get_hiE _ hk hk']
   ·rw [get_upE _ hk',get_upE _ hk']
 ·by_cases h':n<65536
  ·rw [set_hiE t x h h']
   by_cases hk:k<256
   ·rw [get_loE _ hk,get_loE _ hk,if_neg (by omega)]
   ·by_cases hk':k<65536
    ·rw [get_hiE _ hk hk',get_hiE _ hk hk']
     simp only
     rw [sel_gs _ _ _ _ (by omega) _ (by omega)]
     by_cases e:k/4096=n/4096
     ·rw [if_pos e,sel_gs _ _ _ _ (by omega) _ (by omega),e]
      by_cases e1:k/256%16=n/256%16
      ·rw [if_pos e1,sel_gs _ _ _ _ (by omega) _ (by omega),e1]
       by_cases e2:k/16%16=n/16%16
       ·rw [if_pos e2,sel_gs _ _ _ _ (by omega) _ (by omega),e2]
        by_cases e3:k%16=n%16
        ·rw [if_pos e3,if_pos (by omega)]
        ·rw [if_neg e3,if_neg (by omega)]
       ·rw [if_neg e2,if_neg (by omega)]
      ·rw [if_neg e1,if_neg (by omega)]
     ·rw [if_neg e,if_neg (by omega)]
    ·rw [get_upE _ hk',get_upE _ hk',if_neg (by omega)]
  ·rw [set_upE t x h']
   by_cases hk:k<256
   ·rw [get_loE _ hk,get_loE _ hk,if_neg (by omega)]
   ·by_cases hk':k<65536
    ·rw [get_hiE _ hk hk',get_hiE _ hk hk',if_neg (by omega)]
    ·rw [get_upE _ hk',get_upE _ hk']
     exact Ob.get_set ..
end Tr
inductive Cap where
 | kn (n:Nat)
 | rest (sz:Nat)
inductive SV where
 /-- a value without an address -/
 | raw (v:Value)
 | ptr (b o:Nat)
 | sl (b o n:Nat) (c:Cap)
 /-- an empty slice, wherever it lies -/
 | sl0
 | map (b:Nat)
 | fn (f:Nat) (first cap:List SV)
 | yield (b:Nat)
 | agg (l:List SV)
 | tup (l:List SV)
 /-- whatever it is -/
 | any
abbrev Ren:=Nat→Option (Nat × Nat × Nat)
def CapR (o s k:Nat):Cap→Prop
 | .kn n=>k=n
 | .rest sz=>o+k*sz=s
mutual
def Rel (ρ:Ren):SV→Value→Prop
 | .raw v,u=>u=v
 | .ptr b o,u=>∃ x s,ρ b=some (x,s)∧u=.pointer (some ⟨x,s.1+o,none⟩)
 | .sl b o n c,u=>∃ x s k,ρ b=some (x,s)∧CapR o s.2 k c∧u=.slice (some ⟨x,s.1+o,none⟩) n k
 | .sl0,u=>∃ a k,u=.slice a 0 k
 | .map b,u=>∃ x s,ρ b=some (x,s)∧u=.map (some x)
 | .fn f l m,u=>∃ us vs,RelL ρ l us∧RelL ρ m vs∧u=.func (.func f) us.toArray vs.toArray
 | .yield b,u=>∃ x s,ρ b=some (x,s)∧u=.func (.yield x) #[] #[]
 | .agg l,u=>∃ us,RelL ρ l us∧u=.agg us.toArray
 | .tup l,u=>∃ us,RelL ρ l us∧u=.tuple us.toArray
 | .any,_=>True
def RelL (ρ:Ren):List SV→List Value→Prop
 | [],us=>us=[]
 | s::l,us=>∃ v r,us=v::r∧Rel ρ s v∧RelL ρ l r
end
def Ren.Le (ρ ρ':Ren):Prop:=∀ b x,ρ b=some x→ρ' b=some x
mutual
theorem Rel.mono {ρ ρ':Ren} (h:ρ.Le ρ'):∀ {s:SV} {u:Value},Rel ρ s u→Rel ρ' s u
 | .raw v,u,hr=>by rw [Rel] at hr ⊢;exact hr
 | .ptr b o,u,hr=>by rw [Rel] at hr ⊢;obtain ⟨x,s,h1,h2⟩:=hr;exact ⟨x,s,h _ _ h1,h2⟩
 | .sl b o n c,u,hr=>by rw [Rel] at hr ⊢;obtain ⟨x,s,k,h1,h2⟩:=hr;exact ⟨x,s,k,h _ _ h1,h2⟩
 | .sl0,u,hr=>by rw [Rel] at hr ⊢;exact hr
 | .map b,u,hr=>by rw [Rel] at hr ⊢;obtain ⟨x,s,h1,h2⟩:=hr;exact ⟨x,s,h _ _ h1,h2⟩
 | .fn f l m,u,hr=>by rw [Rel] at hr ⊢;obtain ⟨us,vs,h1,h2,h3⟩:=hr;exact ⟨us,vs,RelL.mono h h1,RelL.mono h h2,h3⟩
 | .yield b,u,hr=>by rw [Rel] at hr ⊢;obtain ⟨x,s,h1,h2⟩:=hr;exact ⟨x,s,h _ _ h1,h2⟩
 | .agg l,u,hr=>by rw [Rel] at hr ⊢;obtain ⟨us,h1,h2⟩:=hr;exact ⟨us,RelL.mono h h1,h2⟩
 | .tup l,u,hr=>by rw [Rel] at hr ⊢;obtain ⟨us,h1,h2⟩:=hr;exact ⟨us,RelL.mono h h1,h2⟩
 | .any,_,_=>by rw [Rel];exact True.intro
theorem RelL.mono {ρ ρ':Ren} (h:ρ.Le ρ'):∀ {l:List SV} {us:List Value},RelL ρ l us→RelL ρ' l us
 | [],us,hr=>by rw [RelL] at hr ⊢;exact hr
 | s::l,us,hr=>by rw [RelL] at hr ⊢;obtain ⟨v,r,h1,h2,h3⟩:=hr;exact ⟨v,r,h1,Rel.mono h h2,RelL.mono h h3⟩
end
theorem RelL.iff {ρ:Ren}:∀ {l:List SV} {us:List Value},RelL ρ l us↔l.length=us.length∧∀ (i:Nat) (s:SV) (u:Value),l[i]?=some s→us[i]?=some u→Rel ρ s u
 | [],us=>by
  rw [RelL]
  constructor
  ·rintro rfl;exact ⟨rfl,by simp⟩
  ·intro ⟨h,_⟩;exact List.eq_nil_of_length_eq_zero h.symm
 | s::l,us=>by
  rw [RelL]
  constructor
  ·rintro ⟨v,r,rfl,h1,h2⟩
   obtain ⟨h3,h4⟩:=RelL.iff.1 h2
   refine ⟨by simp [h3],fun i a u=>?_⟩
   cases i with
   | zero=>simp;rintro rfl rfl;exact h1
   | succ i=>simp;exact h4 i a u
  ·rintro ⟨h1,h2⟩
   cases us with
   | nil=>simp at h1
   | cons v r =>
    exact ⟨v,r,rfl,h2 0 s v (by simp) (by simp),RelL.iff.2 ⟨by simpa using h1,fun i a u ha hu=>h2 (i+1) a u (by simpa using ha) (by simpa using hu)⟩⟩
theorem RelL.len {ρ:Ren} {l:List SV} {us:List Value} (h:RelL ρ l us):us.length=l.length:=(RelL.iff.1 h).1.symm
theorem RelL.at {ρ:Ren} {l:List SV} {us:List Value} (h:RelL ρ l us) {i:Nat} {s:SV} (hi:l[i]?=some s):∃ u,us[i]?=some u∧Rel ρ s u:=by
 have hl:=(List.getElem?_eq_some_iff.1 hi).1
 have hl':i<us.length:=by rw [h.len];exact hl
 exact ⟨us[i],by simp [hl'],(RelL.iff.1 h).2 i s _ hi (by simp [hl'])⟩
theorem RelL.app {ρ:Ren} {l l':List SV} {us us':List Value} (h:RelL ρ l us) (h':RelL ρ l' us'):RelL ρ (l++l') (us++us'):=by
 rw [RelL.iff] at h h' ⊢
 refine ⟨by simp [h.1,h'.1],fun i s u hi hu=>?_⟩
 rw [List.getElem?_append] at hi hu
 rw [h.1] at hi
 split at hu
 ·rename_i hl;rw [if_pos hl] at hi;exact h.2 _ _ _ hi hu
 ·rename_i hl;rw [if_neg hl] at hi;exact h'.2 _ _ _ hi hu
theorem RelL.take {ρ:Ren} {l:List SV} {us:List Value} (h:RelL ρ l us) (n:Nat):RelL ρ (l.take n) (us.take n):=by
 rw [RelL.iff] at h ⊢
 refine ⟨by simp [h.1],fun i s u hi hu=>?_⟩
 rw [List.getElem?_take] at hi hu
 split at hi
 ·rename_i hl;rw [if_pos hl] at hu;exact h.2 _ _ _ hi hu
 ·cases hi
theorem RelL.drop {ρ:Ren} {l:List SV} {us:List Value} (h:RelL ρ l us) (n:Nat):RelL ρ (l.drop n) (us.drop n):=by
 rw [RelL.iff] at h ⊢
 refine ⟨by simp [h.1],fun i s u hi hu=>?_⟩
 rw [List.getElem?_drop] at hi hu
 exact h.2 _ _ _ hi hu
theorem RelL.set {ρ:Ren} {l:List SV} {us:List Value} (h:RelL ρ l us) (n:Nat) {s:SV} {u:Value} (hs:Rel ρ s u):RelL ρ (l.set n s) (us.set n u):=by
 rw [RelL.iff] at h ⊢
 refine ⟨by simp [h.1],fun i a b hi hu=>?_⟩
 rw [List.getElem?_set] at hi hu
 rw [h.1] at hi
 split at hi
 ·rename_i e;subst e
  rw [if_pos rfl] at hu
  split at hi
  ·rename_i hl;rw [if_pos hl] at hu;cases hi;cases hu;exact hs
  ·cases hi
 ·rename_i e;rw [if_neg e] at hu;exact h.2 _ _ _ hi hu
theorem RelL.raws {ρ:Ren}:∀ (us:List Value),RelL ρ (us.map .raw) us
 | []=>by rw [List.map_nil,RelL]
 | u::us=>by rw [List.map_cons,RelL];exact ⟨u,us,rfl,by rw [Rel],RelL.raws us⟩
theorem RelL.cons {ρ:Ren} {s:SV} {u:Value} {l:List SV} {us:List Value} (h:Rel ρ s u) (h':RelL ρ l us):RelL ρ (s::l) (u::us):=by rw [RelL];exact ⟨u,us,rfl,h,h'⟩
theorem RelL.nil {ρ:Ren}:RelL ρ [] []:=by rw [RelL]
end Go.TX
namespace Go.TX
open Go Go.TH
structure SLoop where
 state:LoopState
 pending:Option Code
 N:Nat
 tmps:Tr SV
 params:Array Tmp
 assign:Code
 body:Code
 defers:Nat
structure SEnt where
 key:SV
 val:SV
 born:Nat
inductive SO where
 /-- a row of cells; op: more may follow -/
 | cells (l:List SV) (e:TypeId) (op:Bool)
 | map (es:List SEnt) (clock:Nat)
 | loop (r:SLoop)
 | dfr (shut:Bool)
 /-- of a map: which entries have been handed out, by when they were born, the last first -/
 | iter (m:Option Nat) (since:Nat) (seen:List Nat) (last:Nat)
 /-- of a map: the entry that has been handed out last, the others are not told -/
 | itl (m since b last:Nat)
structure St where
 h:Tr SO
 nx:Nat
 base:Nat
 R:List Nat
 W:List Nat
def EnvR (ρ:Ren) (N:Nat) (env:Tr SV) (tmps:Array Value):Prop:=tmps.size=N∧∀ t,Rel ρ ((env.get t).getD (.raw undef)) (tmps.getD t undef)
theorem EnvR.mono {ρ ρ':Ren} (h:ρ.Le ρ') {N:Nat} {env:Tr SV} {tmps:Array Value} (e:EnvR ρ N env tmps):EnvR ρ' N env tmps:=⟨e.1,fun t=>(e.2 t).mono h⟩
def MRel (ρ:Ren):List SEnt→List MapEntry→Prop
 | [],ms=>ms=[]
 | e::es,ms=>∃ m r,ms=m::r∧Rel ρ e.key m.key∧Rel ρ e.val m.val∧m.born=e.born∧MRel ρ es r
theorem MRel.mono {ρ ρ':Ren} (h:ρ.Le ρ'):∀ {es:List SEnt} {ms:List MapEntry},MRel ρ es ms→MRel ρ' es ms
 | [],_,hm=>hm
 | _::_,_,⟨m,r,h1,h2,h3,h4,h5⟩=>⟨m,r,h1,h2.mono h,h3.mono h,h4,h5.mono h⟩
def ORel (ρ:Ren) (s:Nat × Nat):SO→Obj→Prop
 | .cells l e op,ob=>∃ pre us vs,ob=.cells (pre++(us++vs)).toArray e (0,0)∧pre.length=s.1∧RelL ρ l us∧(op=false→vs=[])∧us.length+vs.length=s.2
 | .map es c,ob=>∃ ms:List MapEntry,ob=.map ms.toArray c∧MRel ρ es ms
 | .loop r,ob=>∃ fn tmps dx sx,ob=.loop ⟨r.state,r.pending,fn,tmps,r.params,r.assign,r.body,dx⟩∧EnvR ρ r.N r.tmps tmps∧ρ r.defers=some (dx,sx)
 | .dfr shut,ob=>ob=.deferred (bif shut then none else some [])
 | .iter m since seen last,ob=>s.1=0∧∃ mb,ob=.mapIter mb since seen.reverse.toArray last∧match m with
  | none=>mb=none
  | some x=>∃ b z,ρ x=some (b,z)∧mb=some b
 | .itl m since b last,ob=>s.1=0∧∃ (B:Nat) (z:Nat × Nat) (l:List Nat),ρ m=some (B,z)∧ob=.mapIter (some B) since (l++[b]).toArray last
theorem ORel.mono {ρ ρ':Ren} (h:ρ.Le ρ') {s:Nat × Nat}:∀ {o:SO} {ob:Obj},ORel ρ s o ob→ORel ρ' s o ob
 | .cells _ _ _,_,⟨pre,us,vs,h1,hz,h2,h3⟩=>⟨pre,us,vs,h1,hz,h2.mono h,h3⟩
 | .map _ _,_,⟨ms,h1,h2⟩=>⟨ms,h1,h2.mono h⟩
 | .loop _,_,⟨fn,tmps,dx,sx,h1,h2,h3⟩=>⟨fn,tmps,dx,sx,h1,h2.mono h,h _ _ h3⟩
 | .dfr _,_,h1=>h1
 | .iter none _ _ _,_,h1=>h1
 | .iter (some _) _ _ _,_,⟨h0,mb,h1,b,z,h2,h3⟩=>⟨h0,mb,h1,b,z,h _ _ h2,h3⟩
 | .itl _ _ _ _,_,⟨h0,B,z,l,h1,h2⟩=>⟨h0,B,z,l,h _ _ h1,h2⟩
structure Sim (ρ:Ren) (D:Nat→Prop) (st:St) (w:World):Prop where
 live:∀ x o,D x→st.h.get x=some o→∃ b s ob,ρ x=some (b,s)∧w.heap[b]?=some ob∧ORel ρ s o ob
 inj:∀ x y b s s',D x→D y→st.h.get x≠none→st.h.get y≠none→ρ x=some (b,s)→ρ y=some (b,s')→x=y
 lt:∀ x,st.h.get x≠none→x<st.nx
theorem Sim.sub {ρ:Ren} {D D':Nat→Prop} {st:St} {w:World} (h:Sim ρ D st w) (hd:∀ x,D' x→D x):Sim ρ D' st w :=
 ⟨fun x o d g=>h.live x o (hd x d) g,fun x y b s s' d d'=>h.inj x y b s s' (hd x d) (hd y d'),h.lt⟩
structure Step (ρ ρ':Ren) (D:Nat→Prop) (st st':St) (w w':World):Prop where
 os:w'.os=w.os
 tape:w'.tape=w.tape
 output:w'.output=w.output
 size:w.heap.size≤w'.heap.size
 nx:st.nx≤st'.nx
 base:st'.base=st.base
 sR:∀ x,x∈st.R→x∈st'.R
 sW:∀ x,x∈st.W→x∈st'.W
 ext:∀ x,x<st.nx∨st'.nx≤x→ρ' x=ρ x
 keep:∀ b,b<w.heap.size→w'.heap[b]?=w.heap[b]?∨∃ x s,ρ x=some (b,s)∧D x∧st.h.get x≠none∧(x∈st'.W∨st.base≤x)
 dead:∀ x,x<st.nx→st.h.get x=none→st'.h.get x=none
 same:∀ x,x<st.nx→(x∈st'.W∨st.base≤x)∨st'.h.get x=st.h.get x
 fresh:∀ x b s,st.nx≤x→st'.h.get x≠none→ρ' x=some (b,s)→w.heap.size≤b∨∃ z s',z<st.nx∧ρ z=some (b,s')∧D z∧st.h.get z≠none∧st'.h.get z=none∧(z∈st'.W∨st.base≤z)
 sim:Sim ρ' (fun x=>D x∨st.nx≤x) st' w'
def Free (ρ:Ren) (a b:Nat):Prop:=∀ x,a≤x→x<b→ρ x=none
theorem Step.le {ρ ρ':Ren} {D:Nat→Prop} {st st':St} {w w':World} (h:Step ρ ρ' D st st' w w') (hf:Free ρ st.nx st'.nx):ρ.Le ρ':=by
 intro x v hv
 by_cases hx:x<st.nx∨st'.nx≤x
 ·rw [h.ext x hx];exact hv
 ·rw [hf x (by omega) (by omega)] at hv;cases hv
theorem Step.refl {ρ:Ren} {D:Nat→Prop} {st:St} {w:World} (h:Sim ρ D st w):Step ρ ρ D st st w w :=
 ⟨rfl,rfl,rfl,Nat.le_refl _,Nat.le_refl _,rfl,fun _ h=>h,fun _ h=>h,fun _ _=>rfl,fun _ _=>.inl rfl,fun _ _ h=>h,fun _ _=>.inr rfl,
  fun x _ _ hx hg _=>absurd (h.lt x hg) (by omega),
  ⟨fun x o d g=>by
   rcases d with d | d
   ·exact h.live x o d g
   ·exact absurd (h.lt x (by rw [g];simp)) (by omega),
   fun x y b s s' d d' gx gy=>by
    have hx:=h.lt x gx
    have hy:=h.lt y gy
    exact h.inj x y b s s' (d.resolve_right (by omega)) (d'.resolve_right (by omega)) gx gy,h.lt⟩⟩
theorem Step.free {ρ ρ':Ren} {D:Nat→Prop} {st st':St} {w w':World} (h:Step ρ ρ' D st st' w w') {n:Nat} (hf:Free ρ st.nx n):Free ρ' st'.nx n:=by
 intro x hx hn
 rw [h.ext x (.inr hx)]
 exact hf x (Nat.le_trans h.nx hx) hn
theorem Step.trans {ρ ρ1 ρ2:Ren} {D:Nat→Prop} {st st1 st2:St} {w w1 w2:World} (h:Step ρ ρ1 D st st1 w w1) (h':Step ρ1 ρ2 (fun x=>D x∨st.nx≤x) st1 st2 w1 w2):Step ρ ρ2 D st st2 w w2:=by
 have hb:st1.base=st.base:=h.base
 refine ⟨h'.os.trans h.os,h'.tape.trans h.tape,h'.output.trans h.output,Nat.le_trans h.size h'.size,Nat.le_trans h.nx h'.nx,h'.base.trans h.base,fun x hx=>h'.sR x (h.sR x hx),fun x hx=>h'.sW x (h.sW x hx),?_,?_,?_,?_,?_,?_⟩
 ·intro x hx
  rw [h'.ext x (by rcases hx with hx | hx;exact .inl (Nat.lt_of_lt_of_le hx h.nx);exact .inr hx)]
  exact h.ext x (by rcases hx with hx | hx;exact .inl hx;exact .inr (Nat.le_trans h'.nx hx))
 ·intro b hb'
  rcases h'.keep b (Nat.lt_of_lt_of_le hb' h.size) with e | ⟨x,s,e1,e2,e3,e4⟩
  ·rcases h.keep b hb' with e' | ⟨x,s,e1,e2,e3,e4⟩
   ·exact .inl (e.trans e')
   ·exact .inr ⟨x,s,e1,e2,e3,by rcases e4 with e4 | e4;exact .inl (h'.sW x e4);exact .inr e4⟩
  ·by_cases hx:x<st.nx
   ·refine .inr ⟨x,s,?_,?_,?_,?_⟩
    ·rw [← h.ext x (.inl hx)];exact e1
    ·exact e2.resolve_right (by omega)
    ·intro hn;exact e3 (h.dead x hx hn)
    ·rcases e4 with e4 | e4
     ·exact .inl e4
     ·exact .inr (hb▸e4)
   ·rcases h.fresh x b s (by omega) e3 e1 with e5 | ⟨z,s',_,e5,e6,e7,e8,e9⟩
    ·omega
    ·exact .inr ⟨z,s',e5,e6,e7,by rcases e9 with e9 | e9;exact .inl (h'.sW z e9);exact .inr e9⟩
 ·intro x hx hn
  exact h'.dead x (Nat.lt_of_lt_of_le hx h.nx) (h.dead x hx hn)
 ·intro x hx
  rcases h'.same x (Nat.lt_of_lt_of_le hx h.nx) with e | e
  ·exact .inl (hb▸e)
  ·rcases h.same x hx with e' | e'
   ·exact .inl (by rcases e' with e' | e';exact .inl (h'.sW x e');exact .inr e')
   ·exact .inr (e.trans e')
 ·intro x b s hx hg hr
  by_cases hx1:x<st1.nx
  ·have hg1:st1.h.get x≠none:=fun hn=>hg (h'.dead x hx1 hn)
   have hr1:ρ1 x=some (b,s):=by rw [← h'.ext x (.inl hx1)];exact hr
   rcases h.fresh x b s hx hg1 hr1 with e5 | ⟨z,s',e4,e5,e6,e7,e8,e9⟩
   ·exact .inl e5
   ·exact .inr ⟨z,s',e4,e5,e6,e7,h'.dead z (Nat.lt_of_lt_of_le e4 h.nx) e8,by rcases e9 with e9 | e9;exact .inl (h'.sW z e9);exact .inr e9⟩
  ·rcases h'.fresh x b s (by omega) hg hr with e5 | ⟨z,s',e4,e5,e6,e7,e8,e9⟩
   ·exact .inl (Nat.le_trans h.size e5)
   ·by_cases hz:z<st.nx
    ·refine .inr ⟨z,s',hz,?_,e6.resolve_right (by omega),fun hn=>e7 (h.dead z hz hn),e8,by rcases e9 with e9 | e9;exact .inl e9;exact .inr (hb▸e9)⟩
     rw [← h.ext z (.inl hz)];exact e5
    ·rcases h.fresh z b s' (by omega) e7 e5 with e10 | ⟨y,s2,f4,f5,f6,f7,f8,f9⟩
     ·exact .inl e10
     ·exact .inr ⟨y,s2,f4,f5,f6,f7,h'.dead y (Nat.lt_of_lt_of_le f4 h.nx) f8,by rcases f9 with f9 | f9;exact .inl (h'.sW y f9);exact .inr f9⟩
 ·exact h'.sim.sub fun x d=>by
   rcases d with d | d
   ·exact .inl (.inl d)
   ·exact .inl (.inr d)
end Go.TX
