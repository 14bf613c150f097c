/-
  What is proved here: the examples of some layers hold: their call answers yes, and leaves all that there was. Conditions: none.
-/
import Derived.Test.YtoapkhkdnbcilaaGreatM10
import Derived.Test.YtoapkhkdnbcilaaGreatProg
namespace Go.Proofs.YtoapkhkdnbcilaaGreat
open Go Go.TH Go.TX
theorem hmix:Tryz.prog.follows .mixedOrders=true:=by decide +kernel
theorem hent:enB Tryz.prog=true:=by decide +kernel
theorem yes_of {n f:Nat} (h:yesF Tryz.prog (fun _ _=>none) n f=true) (hb:hbB Tryz.prog f=true):Yes Tryz.prog f:=yesS hmix hent sum0 (hbB_ok hb) h
end Go.Proofs.YtoapkhkdnbcilaaGreat
