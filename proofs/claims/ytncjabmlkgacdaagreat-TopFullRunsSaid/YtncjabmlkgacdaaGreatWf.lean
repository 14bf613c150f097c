/-
  What is proved here: the examples of some layers hold: their call answers yes, and leaves all that there was. Conditions: none.
-/
import Derived.Test.YtncjabmlkgacdaaGreatWa
namespace Go.Proofs.YtncjabmlkgacdaaGreat
open Go Go.TH Go.TX
set_option maxHeartbeats 4000000 in
theorem e28:yesF Tryz.prog (fun _ _=>none) 3000 28=true:=by decide +kernel
theorem y28:Yes Tryz.prog 28:=yes_of e28 (by decide +kernel)
end Go.Proofs.YtncjabmlkgacdaaGreat
