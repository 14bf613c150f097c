/-
  What is proved here: the examples of some layers hold: their call answers yes, and leaves all that there was. Conditions: none.
-/
import Derived.Test.YthoeeeehfkenkaaGreatWa
import Derived.Test.YthoeeeehfkenkaaGreatWb
import Derived.Test.YthoeeeehfkenkaaGreatWc
import Derived.Test.YthoeeeehfkenkaaGreatWd
import Derived.Test.YthoeeeehfkenkaaGreatWe
import Derived.Test.YthoeeeehfkenkaaGreatWf
import Derived.Test.YthoeeeehfkenkaaGreatWg
import Derived.Test.YthoeeeehfkenkaaGreatWj
import Derived.Test.YthoeeeehfkenkaaGreatWh
namespace Go.Proofs.YthoeeeehfkenkaaGreat
open Go Go.TH Go.TX
theorem y37:Yes Tryz.prog 37:=by
  refine yesS hmix hent (sm:=smY [228,229,230,145,146,85,86]) (n:=300) (smY_ok fun f hf=>?_) (hbB_ok (by decide +kernel)) (by decide +kernel)
  simp only [List.mem_cons,List.not_mem_nil,or_false] at hf
  rcases hf with rfl | rfl | rfl | rfl | rfl | rfl | rfl
  · exact y228
  · exact y229
  · exact y230
  · exact y145
  · exact y146
  · exact y85
  · exact y86
theorem y5:Yes Tryz.prog 5:=by
  refine yesS hmix hent (sm:=smY [228,229,230,145,146,85,86,38,39,17,18]) (n:=300) (smY_ok fun f hf=>?_) (hbB_ok (by decide +kernel)) (by decide +kernel)
  simp only [List.mem_cons,List.not_mem_nil,or_false] at hf
  rcases hf with rfl | rfl | rfl | rfl | rfl | rfl | rfl | rfl | rfl | rfl | rfl
  · exact y228
  · exact y229
  · exact y230
  · exact y145
  · exact y146
  · exact y85
  · exact y86
  · exact y38
  · exact y39
  · exact y17
  · exact y18
end Go.Proofs.YthoeeeehfkenkaaGreat
