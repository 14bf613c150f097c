/-
  What is proved here: the examples of some layers hold: their call answers yes, and leaves all that there was. Conditions: none.
-/
import Derived.Test.YtncjabmlkgacdaaGreatWa
namespace Go.Proofs.YtncjabmlkgacdaaGreat
open Go Go.TH Go.TX
set_option maxHeartbeats 4000000 in
theorem e121:yesF Tryz.prog (fun _ _=>none) 3000 121=true:=by decide +kernel
theorem y121:Yes Tryz.prog 121:=yes_of e121 (by decide +kernel)
set_option maxHeartbeats 4000000 in
theorem e122:yesF Tryz.prog (fun _ _=>none) 3000 122=true:=by decide +kernel
theorem y122:Yes Tryz.prog 122:=yes_of e122 (by decide +kernel)
set_option maxHeartbeats 4000000 in
theorem e63:yesF Tryz.prog (fun _ _=>none) 3000 63=true:=by decide +kernel
theorem y63:Yes Tryz.prog 63:=yes_of e63 (by decide +kernel)
end Go.Proofs.YtncjabmlkgacdaaGreat
