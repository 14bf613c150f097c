/-
  What is proved here: the examples of some layers hold: their call answers yes, and leaves all that there was. Conditions: none.
-/
import Derived.Test.YtnehaifgcegemaaGreatWa
namespace Go.Proofs.YtnehaifgcegemaaGreat
open Go Go.TH Go.TX
set_option maxHeartbeats 4000000 in
theorem e256 : yesF Tryz.prog (fun _ _ => none) 3000 256 = true := by decide +kernel
theorem y256 : Yes Tryz.prog 256 := yes_of e256 (by decide +kernel)
set_option maxHeartbeats 4000000 in
theorem e257 : yesF Tryz.prog (fun _ _ => none) 3000 257 = true := by decide +kernel
theorem y257 : Yes Tryz.prog 257 := yes_of e257 (by decide +kernel)
set_option maxHeartbeats 4000000 in
theorem e258 : yesF Tryz.prog (fun _ _ => none) 3000 258 = true := by decide +kernel
theorem y258 : Yes Tryz.prog 258 := yes_of e258 (by decide +kernel)
end Go.Proofs.YtnehaifgcegemaaGreat
