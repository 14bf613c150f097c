/-
  What is proved here: the examples of some layers hold: their call answers yes, and leaves all that there was. Conditions: none.
-/
import Derived.Test.YtfchgmiiicidcaaGreatWa
namespace Go.Proofs.YtfchgmiiicidcaaGreat
open Go Go.TH Go.TX
set_option maxHeartbeats 4000000 in
theorem e145:yesF Tryz.prog (fun _ _=>none) 3000 145=true:=by decide +kernel
theorem y145:Yes Tryz.prog 145:=yes_of e145 (by decide +kernel)
end Go.Proofs.YtfchgmiiicidcaaGreat
