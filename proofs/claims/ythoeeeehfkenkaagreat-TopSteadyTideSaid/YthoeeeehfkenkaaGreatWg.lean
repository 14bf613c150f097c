/-
  What is proved here: the examples of some layers hold: their call answers yes, and leaves all that there was. Conditions: none.
-/
import Derived.Test.YthoeeeehfkenkaaGreatWa
namespace Go.Proofs.YthoeeeehfkenkaaGreat
open Go Go.TH Go.TX
set_option maxHeartbeats 4000000 in
theorem e38:yesF Tryz.prog (fun _ _=>none) 3000 38=true:=by decide +kernel
theorem y38:Yes Tryz.prog 38:=yes_of e38 (by decide +kernel)
end Go.Proofs.YthoeeeehfkenkaaGreat
