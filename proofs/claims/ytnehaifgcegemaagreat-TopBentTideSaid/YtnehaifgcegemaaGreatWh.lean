/-
  What is proved here: the examples of some layers hold: their call answers yes, and leaves all that there was. Conditions: none.
-/
import Derived.Test.YtnehaifgcegemaaGreatWa
import Derived.Test.YtnehaifgcegemaaGreatFi
import Derived.Shelf.SlMaps.Clone
namespace Go.Proofs.YtnehaifgcegemaaGreat
open Go Go.TH Go.TX Go.Proofs Go.Shelf Go.RowKit Go.Maps in
set_option maxRecDepth 100000 in
set_option maxHeartbeats 2000000 in
theorem clone0 (b : Nat) (es : Array MapEntry) (clock : Nat) (w : World) (hb : w.heap[b]? = some (.map es clock)) :
    Calls Tryz.prog 314 #[.map (some b)] w fun e w' => e = .returned (.map (some w.heap.size)) ∧ w' = w.alloc (.map es clock) := by
  have hq := fun w => run_eql_map_nil_sl (P := Tryz.prog) w 397 _ _ (some b) Tryz.underlying397
  have t20 := Tryz.underlying20
  have tM := Tryz.underlying397
  go_enter Tryz.func314, Tryz.ntmps314
  go_wp2
  rw [run_callFunc_extern Tryz.func407 (by kernel_rfl) (by kernel_rfl) (by kernel_rfl) (e := Extern.MapsClone.clone) (by kernel_rfl), run_maps_clone_sl w 397 hb]
  simp only [Result.andThen]
  rw [Oper.upon_value]
  go_wp2
  rw [run_typeAssert_map_sl _ 397 20 _ _ _ Tryz.underlying397]
  simp only [Result.andThen]
  rw [Oper.upon_value]
  go_wp2
  go_ret
  exact ⟨rfl, rfl⟩
open Go Go.TH Go.TX
theorem sC:SumOK Tryz.prog (smC 314 Tryz.prog):=smC_ok (hbB_ok (by decide +kernel)) clone0
def rI (n:Int):SV:=.raw (.int .i64 n)
/-- the first table of the layer's examples, and a call at it -/
def iT (xs:List Int) (lo hi:Int):Inst:=⟨.agg [rI 2,rI 2,rI (-3),rI 3,.sl 1 0 3 (.kn 3)]::xs.map rI,1,[0,0,100,102,0,1,50,51,1,0,105,106].map rI,281,.tup [.agg [rI lo,rI hi],rI 0]⟩
set_option maxHeartbeats 4000000 in
theorem i0:(iT [0] 102 105).ok Tryz.prog (smC 314) 3000 96=true:=by decide +kernel
set_option maxHeartbeats 4000000 in
theorem i1:(iT [1] 50 54).ok Tryz.prog (smC 314) 3000 96=true:=by decide +kernel
set_option maxHeartbeats 4000000 in
theorem i2:(iT [0,1] 49 52).ok Tryz.prog (smC 314) 3000 97=true:=by decide +kernel
noncomputable def smW:Program→Sums:=smT 96 [iT [0] 102 105,iT [1] 50 54] (smT 97 [iT [0,1] 49 52] (smC 314))
theorem sW:SumOK Tryz.prog (smW Tryz.prog):=by
  refine smT_ok hmix hent (smT_ok hmix hent sC fun i hi=>?_) fun i hi=>?_
  · simp only [List.mem_cons,List.not_mem_nil,or_false] at hi
    subst hi
    exact ⟨_,sC,_,i2⟩
  · simp only [List.mem_cons,List.not_mem_nil,or_false] at hi
    rcases hi with rfl | rfl
    · exact ⟨_,sC,_,i0⟩
    · exact ⟨_,sC,_,i1⟩
set_option maxHeartbeats 4000000 in
theorem e42:yesF Tryz.prog smW 3000 42=true:=by decide +kernel
theorem y42:Yes Tryz.prog 42:=yesS hmix hent (sm:=smW) sW (hbB_ok (by decide +kernel)) e42
end Go.Proofs.YtnehaifgcegemaaGreat
