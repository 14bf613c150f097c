/-
  What is proved here: the examples of some layers hold: their call answers yes, and leaves all that there was. Conditions: none.
-/
import Derived.Test.YtoapkhkdnbcilaaGreatWa
namespace Go.Proofs.YtoapkhkdnbcilaaGreat
open Go Go.TH Go.TX
set_option maxHeartbeats 4000000 in
theorem e84:yesF Tryz.prog (fun _ _=>none) 3000 84=true:=by decide +kernel
theorem y84:Yes Tryz.prog 84:=yes_of e84 (by decide +kernel)
end Go.Proofs.YtoapkhkdnbcilaaGreat
