/-
  What is proved here: the examples of some layers hold: their call answers yes, and leaves all that there was. Conditions: none.
-/
import Derived.Test.YtfchgmiiicidcaaGreatWa
namespace Go.Proofs.YtfchgmiiicidcaaGreat
open Go Go.TH Go.TX
set_option maxHeartbeats 4000000 in
theorem e146:yesF Tryz.prog (fun _ _=>none) 3000 146=true:=by decide +kernel
theorem y146:Yes Tryz.prog 146:=yes_of e146 (by decide +kernel)
set_option maxHeartbeats 4000000 in
theorem e147:yesF Tryz.prog (fun _ _=>none) 3000 147=true:=by decide +kernel
theorem y147:Yes Tryz.prog 147:=yes_of e147 (by decide +kernel)
set_option maxHeartbeats 4000000 in
theorem e148:yesF Tryz.prog (fun _ _=>none) 3000 148=true:=by decide +kernel
theorem y148:Yes Tryz.prog 148:=yes_of e148 (by decide +kernel)
end Go.Proofs.YtfchgmiiicidcaaGreat
