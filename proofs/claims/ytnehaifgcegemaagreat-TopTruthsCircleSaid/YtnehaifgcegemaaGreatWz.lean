/-
  What is proved here: the examples of some layers hold: their call answers yes, and leaves all that there was. Conditions: none.
-/
import Derived.Test.YtnehaifgcegemaaGreatWa
import Derived.Test.YtnehaifgcegemaaGreatWb
import Derived.Test.YtnehaifgcegemaaGreatWc
import Derived.Test.YtnehaifgcegemaaGreatWd
import Derived.Test.YtnehaifgcegemaaGreatWe
import Derived.Test.YtnehaifgcegemaaGreatWf
import Derived.Test.YtnehaifgcegemaaGreatWg
import Derived.Test.YtnehaifgcegemaaGreatWj
import Derived.Test.YtnehaifgcegemaaGreatWh
namespace Go.Proofs.YtnehaifgcegemaaGreat
open Go Go.TH Go.TX
theorem y128 : Yes Tryz.prog 128 := by
  refine yesS hmix hent (sm := smY [255, 256, 257, 258, 182, 183, 91]) (n := 300) (smY_ok fun f hf => ?_) (hbB_ok (by decide +kernel)) (by decide +kernel)
  simp only [List.mem_cons, List.not_mem_nil, or_false] at hf
  rcases hf with rfl | rfl | rfl | rfl | rfl | rfl | rfl
  · exact y255
  · exact y256
  · exact y257
  · exact y258
  · exact y182
  · exact y183
  · exact y91
theorem y17 : Yes Tryz.prog 17 := by
  refine yesS hmix hent (sm := smY [255, 256, 257, 258, 182, 183, 91, 92, 42, 43, 56]) (n := 300) (smY_ok fun f hf => ?_) (hbB_ok (by decide +kernel)) (by decide +kernel)
  simp only [List.mem_cons, List.not_mem_nil, or_false] at hf
  rcases hf with rfl | rfl | rfl | rfl | rfl | rfl | rfl | rfl | rfl | rfl | rfl
  · exact y255
  · exact y256
  · exact y257
  · exact y258
  · exact y182
  · exact y183
  · exact y91
  · exact y92
  · exact y42
  · exact y43
  · exact y56
end Go.Proofs.YtnehaifgcegemaaGreat
