/-
  What is proved here: the examples of some layers hold: their call answers yes, and leaves all that there was. Conditions: none.
-/
import Derived.Test.YtoapkhkdnbcilaaGreatWa
import Derived.Test.YtoapkhkdnbcilaaGreatWb
import Derived.Test.YtoapkhkdnbcilaaGreatWc
import Derived.Test.YtoapkhkdnbcilaaGreatWd
import Derived.Test.YtoapkhkdnbcilaaGreatWe
import Derived.Test.YtoapkhkdnbcilaaGreatWf
import Derived.Test.YtoapkhkdnbcilaaGreatWg
import Derived.Test.YtoapkhkdnbcilaaGreatWj
import Derived.Test.YtoapkhkdnbcilaaGreatWh
namespace Go.Proofs.YtoapkhkdnbcilaaGreat
open Go Go.TH Go.TX
theorem y16:Yes Tryz.prog 16:=by
  refine yesS hmix hent (sm:=smY [130,131,132,133,84,85,39,40]) (n:=300) (smY_ok fun f hf=>?_) (hbB_ok (by decide +kernel)) (by decide +kernel)
  simp only [List.mem_cons,List.not_mem_nil,or_false] at hf
  rcases hf with rfl | rfl | rfl | rfl | rfl | rfl | rfl | rfl
  · exact y130
  · exact y131
  · exact y132
  · exact y133
  · exact y84
  · exact y85
  · exact y39
  · exact y40
theorem y4:Yes Tryz.prog 4:=by
  refine yesS hmix hent (sm:=smY [130,131,132,133,84,85,39,40,17,18]) (n:=300) (smY_ok fun f hf=>?_) (hbB_ok (by decide +kernel)) (by decide +kernel)
  simp only [List.mem_cons,List.not_mem_nil,or_false] at hf
  rcases hf with rfl | rfl | rfl | rfl | rfl | rfl | rfl | rfl | rfl | rfl
  · exact y130
  · exact y131
  · exact y132
  · exact y133
  · exact y84
  · exact y85
  · exact y39
  · exact y40
  · exact y17
  · exact y18
end Go.Proofs.YtoapkhkdnbcilaaGreat
