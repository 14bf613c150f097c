/-
  What is proved here: the examples of some layers hold: their call answers yes, and leaves all that there was. Conditions: none.
-/
import Derived.Test.YthoeeeehfkenkaaGreatWa
namespace Go.Proofs.YthoeeeehfkenkaaGreat
open Go Go.TH Go.TX
set_option maxHeartbeats 4000000 in
theorem e86:yesF Tryz.prog (fun _ _=>none) 3000 86=true:=by decide +kernel
theorem y86:Yes Tryz.prog 86:=yes_of e86 (by decide +kernel)
end Go.Proofs.YthoeeeehfkenkaaGreat
