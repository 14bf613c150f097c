/-
  What is proved here: the examples of some layers hold: their call answers yes, and leaves all that there was. Conditions: none.
-/
import Derived.Test.YtoapkhkdnbcilaaGreatWa
namespace Go.Proofs.YtoapkhkdnbcilaaGreat
open Go Go.TH Go.TX
set_option maxHeartbeats 4000000 in
theorem e40:yesF Tryz.prog (fun _ _=>none) 3000 40=true:=by decide +kernel
theorem y40:Yes Tryz.prog 40:=yes_of e40 (by decide +kernel)
end Go.Proofs.YtoapkhkdnbcilaaGreat
