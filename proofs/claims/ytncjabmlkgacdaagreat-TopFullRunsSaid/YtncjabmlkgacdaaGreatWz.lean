/-
  What is proved here: the examples of some layers hold: their call answers yes, and leaves all that there was. Conditions: none.
-/
import Derived.Test.YtncjabmlkgacdaaGreatWa
import Derived.Test.YtncjabmlkgacdaaGreatWb
import Derived.Test.YtncjabmlkgacdaaGreatWc
import Derived.Test.YtncjabmlkgacdaaGreatWd
import Derived.Test.YtncjabmlkgacdaaGreatWe
import Derived.Test.YtncjabmlkgacdaaGreatWf
namespace Go.Proofs.YtncjabmlkgacdaaGreat
open Go Go.TH Go.TX
theorem y8:Yes Tryz.prog 8:=by
  refine yesS hmix hent (sm:=smY [120,121,122,63,64,27,28]) (n:=300) (smY_ok fun f hf=>?_) (hbB_ok (by decide +kernel)) (by decide +kernel)
  simp only [List.mem_cons,List.not_mem_nil,or_false] at hf
  rcases hf with rfl | rfl | rfl | rfl | rfl | rfl | rfl
  · exact y120
  · exact y121
  · exact y122
  · exact y63
  · exact y64
  · exact y27
  · exact y28
end Go.Proofs.YtncjabmlkgacdaaGreat
