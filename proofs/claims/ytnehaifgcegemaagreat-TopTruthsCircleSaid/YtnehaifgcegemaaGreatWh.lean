/-
  What is proved here: the examples of some layers hold: their call answers yes, and leaves all that there was. Conditions: none.
-/
import Derived.Test.YtnehaifgcegemaaGreatWa
import Derived.Shelf.SlMaps.Clone
namespace Go.Proofs.YtnehaifgcegemaaGreat
open Go Go.TH Go.TX Go.Proofs Go.Shelf Go.RowKit Go.Maps in
set_option maxRecDepth 100000 in
set_option maxHeartbeats 2000000 in
theorem clone0 (b : Nat) (es : Array MapEntry) (clock : Nat) (w : World) (hb : w.heap[b]? = some (.map es clock)) :
    Calls Tryz.prog 314 #[.map (some b)] w fun e w' => e = .returned (.map (some w.heap.size)) ∧ w' = w.alloc (.map es clock) := by
  have hq := fun w => run_eql_map_nil_sl (P := Tryz.prog) w 397 _ _ (some b) Tryz.underlying397
  have t20 := Tryz.underlying20
  have tM := Tryz.underlying397
  go_enter Tryz.func314, Tryz.ntmps314
  go_wp2
  rw [run_callFunc_extern Tryz.func407 (by kernel_rfl) (by kernel_rfl) (by kernel_rfl) (e := Extern.MapsClone.clone) (by kernel_rfl), run_maps_clone_sl w 397 hb]
  simp only [Result.andThen]
  rw [Oper.upon_value]
  go_wp2
  rw [run_typeAssert_map_sl _ 397 20 _ _ _ Tryz.underlying397]
  simp only [Result.andThen]
  rw [Oper.upon_value]
  go_wp2
  go_ret
  exact ⟨rfl, rfl⟩
open Go Go.TH Go.TX
theorem yes_ofC {n f : Nat} (h : yesF Tryz.prog (smC 314) n f = true) (hb : hbB Tryz.prog f = true) : Yes Tryz.prog f := yesS hmix hent (sm := smC 314) (smC_ok (hbB_ok (by decide +kernel)) clone0) (hbB_ok hb) h
set_option maxHeartbeats 4000000 in
theorem e42 : yesF Tryz.prog (smC 314) 3000 42 = true := by decide +kernel
theorem y42 : Yes Tryz.prog 42 := yes_ofC e42 (by decide +kernel)
end Go.Proofs.YtnehaifgcegemaaGreat
