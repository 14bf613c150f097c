/-
  What is proved here: the examples of some layers hold: their call answers yes, and leaves all that there was. Conditions: none.
-/
import Derived.Test.YtfchgmiiicidcaaGreatWa
namespace Go.Proofs.YtfchgmiiicidcaaGreat
open Go Go.TH Go.TX
set_option maxHeartbeats 4000000 in
theorem e81:yesF Tryz.prog (fun _ _=>none) 3000 81=true:=by decide +kernel
theorem y81:Yes Tryz.prog 81:=yes_of e81 (by decide +kernel)
end Go.Proofs.YtfchgmiiicidcaaGreat
