/-
  What is proved here: the examples of some layers hold: their call answers yes, and leaves all that there was. Conditions: none.
-/
import Derived.Test.YtfchgmiiicidcaaGreatWa
import Derived.Test.YtfchgmiiicidcaaGreatWb
import Derived.Test.YtfchgmiiicidcaaGreatWc
import Derived.Test.YtfchgmiiicidcaaGreatWd
import Derived.Test.YtfchgmiiicidcaaGreatWe
import Derived.Test.YtfchgmiiicidcaaGreatWf
import Derived.Test.YtfchgmiiicidcaaGreatWg
namespace Go.Proofs.YtfchgmiiicidcaaGreat
open Go Go.TH Go.TX
theorem y8:Yes Tryz.prog 8:=by
  refine yesS hmix hent (sm:=smY [145,146,147,148,81,82,33,34]) (n:=300) (smY_ok fun f hf=>?_) (hbB_ok (by decide +kernel)) (by decide +kernel)
  simp only [List.mem_cons,List.not_mem_nil,or_false] at hf
  rcases hf with rfl | rfl | rfl | rfl | rfl | rfl | rfl | rfl
  · exact y145
  · exact y146
  · exact y147
  · exact y148
  · exact y81
  · exact y82
  · exact y33
  · exact y34
end Go.Proofs.YtfchgmiiicidcaaGreat
