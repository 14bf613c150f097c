/-
  What is proved here: the examples of some layers hold: their call answers yes, and leaves all that there was. Conditions: none.
-/
import Derived.Test.YtnehaifgcegemaaGreatWa
namespace Go.Proofs.YtnehaifgcegemaaGreat
open Go Go.TH Go.TX
set_option maxHeartbeats 4000000 in
theorem e43 : yesF Tryz.prog (fun _ _ => none) 3000 43 = true := by decide +kernel
theorem y43 : Yes Tryz.prog 43 := yes_of e43 (by decide +kernel)
set_option maxHeartbeats 4000000 in
theorem e56 : yesF Tryz.prog (fun _ _ => none) 3000 56 = true := by decide +kernel
theorem y56 : Yes Tryz.prog 56 := yes_of e56 (by decide +kernel)
end Go.Proofs.YtnehaifgcegemaaGreat
