/-
  What is proved here: the examples of some layers hold: their call answers yes, and leaves all that there was. Conditions: none.
-/
import Derived.Test.YthoeeeehfkenkaaGreatWa
namespace Go.Proofs.YthoeeeehfkenkaaGreat
open Go Go.TH Go.TX
set_option maxHeartbeats 4000000 in
theorem e228:yesF Tryz.prog (fun _ _=>none) 3000 228=true:=by decide +kernel
theorem y228:Yes Tryz.prog 228:=yes_of e228 (by decide +kernel)
end Go.Proofs.YthoeeeehfkenkaaGreat
