/-
  What is proved here: the examples of some layers hold: their call answers yes, and leaves all that there was. Conditions: none.
-/
import Derived.Test.YtnehaifgcegemaaGreatWa
namespace Go.Proofs.YtnehaifgcegemaaGreat
open Go Go.TH Go.TX
set_option maxHeartbeats 4000000 in
theorem e92 : yesF Tryz.prog (fun _ _ => none) 3000 92 = true := by decide +kernel
theorem y92 : Yes Tryz.prog 92 := yes_of e92 (by decide +kernel)
end Go.Proofs.YtnehaifgcegemaaGreat
