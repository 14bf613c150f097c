/-
  What is proved here: the examples of some layers hold: their call answers yes, and leaves all that there was. Conditions: none.
-/
import Derived.Test.YtoapkhkdnbcilaaGreatWa
namespace Go.Proofs.YtoapkhkdnbcilaaGreat
open Go Go.TH Go.TX
set_option maxHeartbeats 4000000 in
theorem e131:yesF Tryz.prog (fun _ _=>none) 3000 131=true:=by decide +kernel
theorem y131:Yes Tryz.prog 131:=yes_of e131 (by decide +kernel)
set_option maxHeartbeats 4000000 in
theorem e132:yesF Tryz.prog (fun _ _=>none) 3000 132=true:=by decide +kernel
theorem y132:Yes Tryz.prog 132:=yes_of e132 (by decide +kernel)
set_option maxHeartbeats 4000000 in
theorem e133:yesF Tryz.prog (fun _ _=>none) 3000 133=true:=by decide +kernel
theorem y133:Yes Tryz.prog 133:=yes_of e133 (by decide +kernel)
end Go.Proofs.YtoapkhkdnbcilaaGreat
