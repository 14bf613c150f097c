/-
  What is proved here: the examples of some layers hold: their call answers yes, and leaves all that there was. Conditions: none.
-/
import Derived.Test.YtoapkhkdnbcilaaGreatWa
import Derived.Shelf.SlMaps.Clone
namespace Go.Proofs.YtoapkhkdnbcilaaGreat
open Go Go.TH Go.TX Go.Proofs Go.Shelf Go.RowKit Go.Maps in
set_option maxRecDepth 100000 in
set_option maxHeartbeats 2000000 in
theorem clone0 (b:Nat) (es:Array MapEntry) (clock:Nat) (w:World) (hb:w.heap[b]?=some (.map es clock)) :
    Calls Tryz.prog 80 #[.map (some b)] w fun e w'=>e=.returned (.map (some w.heap.size))∧w'=w.alloc (.map es clock):=by
  have hq:=fun w=>run_eql_map_nil_sl (P:=Tryz.prog) w 134 _ _ (some b) Tryz.underlying134
  have t20:=Tryz.underlying20
  have tM:=Tryz.underlying134
  go_enter Tryz.func80,Tryz.ntmps80
  go_wp2
  rw [run_callFunc_extern Tryz.func129 (by kernel_rfl) (by kernel_rfl) (by kernel_rfl) (e:=Extern.MapsClone.clone) (by kernel_rfl),run_maps_clone_sl w 134 hb]
  simp only [Result.andThen]
  rw [Oper.upon_value]
  go_wp2
  rw [run_typeAssert_map_sl _ 134 20 _ _ _ Tryz.underlying134]
  simp only [Result.andThen]
  rw [Oper.upon_value]
  go_wp2
  go_ret
  exact ⟨rfl,rfl⟩
open Go Go.TH Go.TX
theorem yes_ofC {n f:Nat} (h:yesF Tryz.prog (smC 80) n f=true) (hb:hbB Tryz.prog f=true):Yes Tryz.prog f:=yesS hmix hent (sm:=smC 80) (smC_ok (hbB_ok (by decide +kernel)) clone0) (hbB_ok hb) h
set_option maxHeartbeats 4000000 in
theorem e17:yesF Tryz.prog (smC 80) 3000 17=true:=by decide +kernel
theorem y17:Yes Tryz.prog 17:=yes_ofC e17 (by decide +kernel)
end Go.Proofs.YtoapkhkdnbcilaaGreat
