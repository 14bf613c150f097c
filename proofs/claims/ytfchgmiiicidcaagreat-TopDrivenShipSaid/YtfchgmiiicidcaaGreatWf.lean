/-
  What is proved here: the examples of some layers hold: their call answers yes, and leaves all that there was. Conditions: none.
-/
import Derived.Test.YtfchgmiiicidcaaGreatWa
namespace Go.Proofs.YtfchgmiiicidcaaGreat
open Go Go.TH Go.TX
set_option maxHeartbeats 4000000 in
theorem e33:yesF Tryz.prog (fun _ _=>none) 3000 33=true:=by decide +kernel
theorem y33:Yes Tryz.prog 33:=yes_of e33 (by decide +kernel)
end Go.Proofs.YtfchgmiiicidcaaGreat
