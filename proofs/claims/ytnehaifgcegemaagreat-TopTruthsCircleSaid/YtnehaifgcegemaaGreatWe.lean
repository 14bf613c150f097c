/-
  What is proved here: the examples of some layers hold: their call answers yes, and leaves all that there was. Conditions: none.
-/
import Derived.Test.YtnehaifgcegemaaGreatWa
namespace Go.Proofs.YtnehaifgcegemaaGreat
open Go Go.TH Go.TX
set_option maxHeartbeats 4000000 in
theorem e183 : yesF Tryz.prog (fun _ _ => none) 3000 183 = true := by decide +kernel
theorem y183 : Yes Tryz.prog 183 := yes_of e183 (by decide +kernel)
end Go.Proofs.YtnehaifgcegemaaGreat
