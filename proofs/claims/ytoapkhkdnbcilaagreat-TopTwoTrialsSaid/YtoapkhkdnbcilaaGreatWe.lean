/-
  What is proved here: the examples of some layers hold: their call answers yes, and leaves all that there was. Conditions: none.
-/
import Derived.Test.YtoapkhkdnbcilaaGreatWa
namespace Go.Proofs.YtoapkhkdnbcilaaGreat
open Go Go.TH Go.TX
set_option maxHeartbeats 4000000 in
theorem e85:yesF Tryz.prog (fun _ _=>none) 3000 85=true:=by decide +kernel
theorem y85:Yes Tryz.prog 85:=yes_of e85 (by decide +kernel)
end Go.Proofs.YtoapkhkdnbcilaaGreat
