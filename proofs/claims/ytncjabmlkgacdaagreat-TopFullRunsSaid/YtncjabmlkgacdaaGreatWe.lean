/-
  What is proved here: the examples of some layers hold: their call answers yes, and leaves all that there was. Conditions: none.
-/
import Derived.Test.YtncjabmlkgacdaaGreatWa
namespace Go.Proofs.YtncjabmlkgacdaaGreat
open Go Go.TH Go.TX
set_option maxHeartbeats 4000000 in
theorem e27:yesF Tryz.prog (fun _ _=>none) 3000 27=true:=by decide +kernel
theorem y27:Yes Tryz.prog 27:=yes_of e27 (by decide +kernel)
end Go.Proofs.YtncjabmlkgacdaaGreat
