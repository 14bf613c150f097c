/-
  What is proved here: the examples of some layers hold: their call answers yes, and leaves all that there was. Conditions: none.
-/
import Derived.Test.YthoeeeehfkenkaaGreatWa
import Derived.Test.YthoeeeehfkenkaaGreatFi
import Derived.Shelf.SlMaps.Clone
namespace Go.Proofs.YthoeeeehfkenkaaGreat
open Go Go.TH Go.TX Go.Proofs Go.Shelf Go.RowKit Go.Maps in
set_option maxRecDepth 100000 in
set_option maxHeartbeats 2000000 in
theorem clone0 (b:Nat) (es:Array MapEntry) (clock:Nat) (w:World) (hb:w.heap[b]?=some (.map es clock)) :
    Calls Tryz.prog 291 #[.map (some b)] w fun e w'=>e=.returned (.map (some w.heap.size))∧w'=w.alloc (.map es clock):=by
  have hq:=fun w=>run_eql_map_nil_sl (P:=Tryz.prog) w 399 _ _ (some b) Tryz.underlying399
  have t20:=Tryz.underlying20
  have tM:=Tryz.underlying399
  go_enter Tryz.func291,Tryz.ntmps291
  go_wp2
  rw [run_callFunc_extern Tryz.func387 (by kernel_rfl) (by kernel_rfl) (by kernel_rfl) (e:=Extern.MapsClone.clone) (by kernel_rfl),run_maps_clone_sl w 399 hb]
  simp only [Result.andThen]
  rw [Oper.upon_value]
  go_wp2
  rw [run_typeAssert_map_sl _ 399 20 _ _ _ Tryz.underlying399]
  simp only [Result.andThen]
  rw [Oper.upon_value]
  go_wp2
  go_ret
  exact ⟨rfl,rfl⟩
open Go Go.TH Go.TX
theorem sC:SumOK Tryz.prog (smC 291 Tryz.prog):=smC_ok (hbB_ok (by decide +kernel)) clone0
def rI (n:Int):SV:=.raw (.int .i64 n)
/-- the first table of the layer's examples, and a call at it -/
def iT (xs:List Int) (lo hi:Int):Inst:=⟨.agg [rI 2,rI 2,rI (-3),rI 3,.sl 1 0 3 (.kn 3)]::xs.map rI,1,[0,0,100,102,0,1,50,51,1,0,105,106].map rI,269,.tup [.agg [rI lo,rI hi],rI 0]⟩
set_option maxHeartbeats 4000000 in
theorem i0:(iT [0] 102 105).ok Tryz.prog (smC 291) 3000 100=true:=by decide +kernel
set_option maxHeartbeats 4000000 in
theorem i1:(iT [1] 50 54).ok Tryz.prog (smC 291) 3000 100=true:=by decide +kernel
set_option maxHeartbeats 4000000 in
theorem i2:(iT [0,1] 49 52).ok Tryz.prog (smC 291) 3000 101=true:=by decide +kernel
noncomputable def smW:Program→Sums:=smT 100 [iT [0] 102 105,iT [1] 50 54] (smT 101 [iT [0,1] 49 52] (smC 291))
theorem sW:SumOK Tryz.prog (smW Tryz.prog):=by
  refine smT_ok hmix hent (smT_ok hmix hent sC fun i hi=>?_) fun i hi=>?_
  · simp only [List.mem_cons,List.not_mem_nil,or_false] at hi
    subst hi
    exact ⟨_,sC,_,i2⟩
  · simp only [List.mem_cons,List.not_mem_nil,or_false] at hi
    rcases hi with rfl | rfl
    · exact ⟨_,sC,_,i0⟩
    · exact ⟨_,sC,_,i1⟩
set_option maxHeartbeats 4000000 in
theorem e39:yesF Tryz.prog smW 3000 39=true:=by decide +kernel
theorem y39:Yes Tryz.prog 39:=yesS hmix hent (sm:=smW) sW (hbB_ok (by decide +kernel)) e39
end Go.Proofs.YthoeeeehfkenkaaGreat
