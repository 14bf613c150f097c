/-
  What is proved here: the examples of some layers hold: their call answers yes, and leaves all that there was. Conditions: none.
-/
import Derived.Test.YthoeeeehfkenkaaGreatWa
namespace Go.Proofs.YthoeeeehfkenkaaGreat
open Go Go.TH Go.TX
set_option maxHeartbeats 4000000 in
theorem e146:yesF Tryz.prog (fun _ _=>none) 3000 146=true:=by decide +kernel
theorem y146:Yes Tryz.prog 146:=yes_of e146 (by decide +kernel)
end Go.Proofs.YthoeeeehfkenkaaGreat
