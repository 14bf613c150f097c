/-
  What is proved here: closed facts of the program and of a row. Conditions: none.
-/
import Derived.Test.YtoapkhkdnbcilaaGreatRows
import Derived.Test.YtoapkhkdnbcilaaGreatM2
import Derived.OpenShut
import Derived.JoinedOf
namespace Go.Proofs.YtoapkhkdnbcilaaGreat
open Go Go.TH
theorem j_laid:(laidOutB Tryz.prog)=true:=by kernel_rfl
theorem j_maps:(mapsRowed Tryz.prog)=true:=by kernel_rfl
theorem j_pstops:((Tryz.prog.stops==[]))=true:=by kernel_rfl
theorem j_sk:((Tryz.prog.stopKnobs==[]))=true:=by kernel_rfl
theorem j_sh:(Tryz.prog.stopsHeard)=true:=by kernel_rfl
theorem j_me:(Tryz.prog.mayEnter)=true:=by kernel_rfl
theorem and_t {a b:Bool} (h:a=true) (g:b=true):(a&&b)=true:=by rw [h,g];rfl
end Go.Proofs.YtoapkhkdnbcilaaGreat
