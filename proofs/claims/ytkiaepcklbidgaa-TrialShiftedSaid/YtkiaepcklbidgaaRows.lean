/-
  No cell of these rows narrows 'for every input' (looked for: loops, veiled, ifaces, maps, wideKeys, modest, calm, conditions, laid).
  DERIVED. THE GIVEN ROWS OF THIS SEAT. 9 by the template 'for every input the law returns true; each argument reads behind the call as it read before'; 0 by the template 'total and deterministic' (their statements: YtkiaepcklbidgaaTotals.lean).
  GIVEN WITH THE SEED: the statements are not yours to turn. If you find one false, say at which input.
  Laid BY PROGRAM, IN A SANDBOX (cutbox-rows.mjs): the forced cells as the released guide's own fill.sh prints them over the translation 6b4e07f599bdc3e7… (all of the seat's roots in one cut). By AI agents, Wed Nov 11 2026. No macro, syntax, notation, axiom, sorry.
-/
import Derived.Test.YtkiaepcklbidgaaChecked
import GoSem.Claim
import GoSem.ClaimJoined
import GoSem.ClaimMapViews
import Derived.JoinedTies
import Derived.KernelRfl
namespace Go.Proofs.Ytkiaepcklbidgaa
/- THE CELL 'sum', in the pinned program and in every row, IS THE sha256 OF THE DUMP (.gsa) THAT YtkiaepcklbidgaaProg.lean LOADS. Nothing in Lean hashes anything: it is a label: what it is worth is what the hold of that sum in a sandbox is worth. -/
noncomputable def Try.pinned : Pinned := { name := "ytkiaepcklbidgaa", sum := "6b4e07f599bdc3e7d16a29e057a8b9a077ed94a8872ca80eccf5e1e2d442af22", checked := Try.checked }
namespace Rows
def none {H : Type} : Left H := { results := [], args := [] }

/-- 'tumblehomelaw10.TrialWeights': WHATEVER THE INPUT: true; the input reads as it did. -/
def trialWeightsSpec : ChangeSpec := { name := "trialWeights", fn := fun _ => fun
  | [d] => { results := [.lit (.bool true)], args := [d] }
  | _ => none }
def trialWeightsRow : OpenClaim := { program := "ytkiaepcklbidgaa", sum := "6b4e07f599bdc3e7d16a29e057a8b9a077ed94a8872ca80eccf5e1e2d442af22", func := "tumblehome/tumblehomelaw10.TrialWeights", spec := "trialWeights", unfollowed := true, recurses := true, apart := false }
def TrialWeightsSaid : Prop := trialWeightsRow.holds Try.pinned (OpenSpec.ofChange trialWeightsSpec)

/-- ITS FALSE NEIGHBOUR: 'it returns false'. Refute it at one input. -/
def trialWeightsWrong : ChangeSpec := { name := "trialWeights", fn := fun _ => fun
  | [d] => { results := [.lit (.bool false)], args := [d] }
  | _ => none }
def TrialWeightsWrongFalsely : Prop := trialWeightsRow.holds Try.pinned (OpenSpec.ofChange trialWeightsWrong)

/-- 'tumblehomelaw10.TrialMeans': WHATEVER THE INPUT: true; the input reads as it did. -/
def trialMeansSpec : ChangeSpec := { name := "trialMeans", fn := fun _ => fun
  | [d1, d2, d3] => { results := [.lit (.bool true)], args := [d1, d2, d3] }
  | _ => none }
def trialMeansRow : OpenClaim := { program := "ytkiaepcklbidgaa", sum := "6b4e07f599bdc3e7d16a29e057a8b9a077ed94a8872ca80eccf5e1e2d442af22", func := "tumblehome/tumblehomelaw10.TrialMeans", spec := "trialMeans", unfollowed := true, recurses := true, apart := false }
def TrialMeansSaid : Prop := trialMeansRow.holds Try.pinned (OpenSpec.ofChange trialMeansSpec)

/-- ITS FALSE NEIGHBOUR: 'it returns false'. Refute it at one input. -/
def trialMeansWrong : ChangeSpec := { name := "trialMeans", fn := fun _ => fun
  | [d1, d2, d3] => { results := [.lit (.bool false)], args := [d1, d2, d3] }
  | _ => none }
def TrialMeansWrongFalsely : Prop := trialMeansRow.holds Try.pinned (OpenSpec.ofChange trialMeansWrong)

/-- 'tumblehomelaw10.TrialPays': WHATEVER THE INPUT: true; the input reads as it did. -/
def trialPaysSpec : ChangeSpec := { name := "trialPays", fn := fun _ => fun
  | [d1, d2, d3] => { results := [.lit (.bool true)], args := [d1, d2, d3] }
  | _ => none }
def trialPaysRow : OpenClaim := { program := "ytkiaepcklbidgaa", sum := "6b4e07f599bdc3e7d16a29e057a8b9a077ed94a8872ca80eccf5e1e2d442af22", func := "tumblehome/tumblehomelaw10.TrialPays", spec := "trialPays", unfollowed := true, recurses := true, apart := false }
def TrialPaysSaid : Prop := trialPaysRow.holds Try.pinned (OpenSpec.ofChange trialPaysSpec)

/-- ITS FALSE NEIGHBOUR: 'it returns false'. Refute it at one input. -/
def trialPaysWrong : ChangeSpec := { name := "trialPays", fn := fun _ => fun
  | [d1, d2, d3] => { results := [.lit (.bool false)], args := [d1, d2, d3] }
  | _ => none }
def TrialPaysWrongFalsely : Prop := trialPaysRow.holds Try.pinned (OpenSpec.ofChange trialPaysWrong)

/-- 'tumblehomelaw10.TrialCancels': WHATEVER THE INPUT: true; the input reads as it did. -/
def trialCancelsSpec : ChangeSpec := { name := "trialCancels", fn := fun _ => fun
  | [d1, d2, d3] => { results := [.lit (.bool true)], args := [d1, d2, d3] }
  | _ => none }
def trialCancelsRow : OpenClaim := { program := "ytkiaepcklbidgaa", sum := "6b4e07f599bdc3e7d16a29e057a8b9a077ed94a8872ca80eccf5e1e2d442af22", func := "tumblehome/tumblehomelaw10.TrialCancels", spec := "trialCancels", unfollowed := true, recurses := true, apart := false }
def TrialCancelsSaid : Prop := trialCancelsRow.holds Try.pinned (OpenSpec.ofChange trialCancelsSpec)

/-- ITS FALSE NEIGHBOUR: 'it returns false'. Refute it at one input. -/
def trialCancelsWrong : ChangeSpec := { name := "trialCancels", fn := fun _ => fun
  | [d1, d2, d3] => { results := [.lit (.bool false)], args := [d1, d2, d3] }
  | _ => none }
def TrialCancelsWrongFalsely : Prop := trialCancelsRow.holds Try.pinned (OpenSpec.ofChange trialCancelsWrong)

/-- 'tumblehomelaw10.TrialFooled': WHATEVER THE INPUT: true; the input reads as it did. -/
def trialFooledSpec : ChangeSpec := { name := "trialFooled", fn := fun _ => fun
  | [d1, d2, d3] => { results := [.lit (.bool true)], args := [d1, d2, d3] }
  | _ => none }
def trialFooledRow : OpenClaim := { program := "ytkiaepcklbidgaa", sum := "6b4e07f599bdc3e7d16a29e057a8b9a077ed94a8872ca80eccf5e1e2d442af22", func := "tumblehome/tumblehomelaw10.TrialFooled", spec := "trialFooled", unfollowed := true, recurses := true, apart := false }
def TrialFooledSaid : Prop := trialFooledRow.holds Try.pinned (OpenSpec.ofChange trialFooledSpec)

/-- ITS FALSE NEIGHBOUR: 'it returns false'. Refute it at one input. -/
def trialFooledWrong : ChangeSpec := { name := "trialFooled", fn := fun _ => fun
  | [d1, d2, d3] => { results := [.lit (.bool false)], args := [d1, d2, d3] }
  | _ => none }
def TrialFooledWrongFalsely : Prop := trialFooledRow.holds Try.pinned (OpenSpec.ofChange trialFooledWrong)

/-- 'tumblehomelaw10.TrialBoxed': WHATEVER THE INPUT: true; the input reads as it did. -/
def trialBoxedSpec : ChangeSpec := { name := "trialBoxed", fn := fun _ => fun
  | [d1, d2, d3] => { results := [.lit (.bool true)], args := [d1, d2, d3] }
  | _ => none }
def trialBoxedRow : OpenClaim := { program := "ytkiaepcklbidgaa", sum := "6b4e07f599bdc3e7d16a29e057a8b9a077ed94a8872ca80eccf5e1e2d442af22", func := "tumblehome/tumblehomelaw10.TrialBoxed", spec := "trialBoxed", unfollowed := true, recurses := true, apart := false }
def TrialBoxedSaid : Prop := trialBoxedRow.holds Try.pinned (OpenSpec.ofChange trialBoxedSpec)

/-- ITS FALSE NEIGHBOUR: 'it returns false'. Refute it at one input. -/
def trialBoxedWrong : ChangeSpec := { name := "trialBoxed", fn := fun _ => fun
  | [d1, d2, d3] => { results := [.lit (.bool false)], args := [d1, d2, d3] }
  | _ => none }
def TrialBoxedWrongFalsely : Prop := trialBoxedRow.holds Try.pinned (OpenSpec.ofChange trialBoxedWrong)

/-- 'tumblehomelaw10.TrialShifted': WHATEVER THE INPUT: true; the input reads as it did. -/
def trialShiftedSpec : ChangeSpec := { name := "trialShifted", fn := fun _ => fun
  | [d1, d2, d3] => { results := [.lit (.bool true)], args := [d1, d2, d3] }
  | _ => none }
def trialShiftedRow : OpenClaim := { program := "ytkiaepcklbidgaa", sum := "6b4e07f599bdc3e7d16a29e057a8b9a077ed94a8872ca80eccf5e1e2d442af22", func := "tumblehome/tumblehomelaw10.TrialShifted", spec := "trialShifted", unfollowed := true, recurses := true, apart := false }
def TrialShiftedSaid : Prop := trialShiftedRow.holds Try.pinned (OpenSpec.ofChange trialShiftedSpec)

/-- ITS FALSE NEIGHBOUR: 'it returns false'. Refute it at one input. -/
def trialShiftedWrong : ChangeSpec := { name := "trialShifted", fn := fun _ => fun
  | [d1, d2, d3] => { results := [.lit (.bool false)], args := [d1, d2, d3] }
  | _ => none }
def TrialShiftedWrongFalsely : Prop := trialShiftedRow.holds Try.pinned (OpenSpec.ofChange trialShiftedWrong)

/-- 'tumblehomelaw10.TrialPaid': WHATEVER THE INPUT: true; the input reads as it did. -/
def trialPaidSpec : ChangeSpec := { name := "trialPaid", fn := fun _ => fun
  | [d1, d2, d3, d4] => { results := [.lit (.bool true)], args := [d1, d2, d3, d4] }
  | _ => none }
def trialPaidRow : OpenClaim := { program := "ytkiaepcklbidgaa", sum := "6b4e07f599bdc3e7d16a29e057a8b9a077ed94a8872ca80eccf5e1e2d442af22", func := "tumblehome/tumblehomelaw10.TrialPaid", spec := "trialPaid", unfollowed := true, recurses := true, apart := false }
def TrialPaidSaid : Prop := trialPaidRow.holds Try.pinned (OpenSpec.ofChange trialPaidSpec)

/-- ITS FALSE NEIGHBOUR: 'it returns false'. Refute it at one input. -/
def trialPaidWrong : ChangeSpec := { name := "trialPaid", fn := fun _ => fun
  | [d1, d2, d3, d4] => { results := [.lit (.bool false)], args := [d1, d2, d3, d4] }
  | _ => none }
def TrialPaidWrongFalsely : Prop := trialPaidRow.holds Try.pinned (OpenSpec.ofChange trialPaidWrong)

/-- 'tumblehomelaw10.TrialKnown': WHATEVER THE INPUT: true; the input reads as it did. -/
def trialKnownSpec : ChangeSpec := { name := "trialKnown", fn := fun _ => fun
  | [] => { results := [.lit (.bool true)], args := [] }
  | _ => none }
def trialKnownRow : OpenClaim := { program := "ytkiaepcklbidgaa", sum := "6b4e07f599bdc3e7d16a29e057a8b9a077ed94a8872ca80eccf5e1e2d442af22", func := "tumblehome/tumblehomelaw10.TrialKnown", spec := "trialKnown", unfollowed := true, recurses := true, apart := false }
def TrialKnownSaid : Prop := trialKnownRow.holds Try.pinned (OpenSpec.ofChange trialKnownSpec)

/-- ITS FALSE NEIGHBOUR: 'it returns false'. Refute it at one input. -/
def trialKnownWrong : ChangeSpec := { name := "trialKnown", fn := fun _ => fun
  | [] => { results := [.lit (.bool false)], args := [] }
  | _ => none }
def TrialKnownWrongFalsely : Prop := trialKnownRow.holds Try.pinned (OpenSpec.ofChange trialKnownWrong)

/- THE SECOND FORM. 'bulk': how many values and letters a reading holds, each counted each time it is reached (what is shared counts as often as it is met; a slice's spare places count too). A statement '..UptoSaid' is the law's where the arguments, and the package variables that the reading takes, are together of bulk at most 1048576: NARROWER than '..Said'. Prove '..Said' where nothing that the law and all that it calls make is longer than what came in: it says more and counts as full. Else prove '..UptoSaid'. A law counts once. -/
mutual
def uptoBulk {H : Type} : DataW H → Nat
  | .lit (.string bytes) => bytes.length + 1
  | .lit _ => 1
  | .nil => 1
  | .ptr d => uptoBulk d + 1
  | .slice elems spare => uptoBulkAll elems + uptoBulkAll spare + 1
  | .agg parts => uptoBulkAll parts + 1
  | .iface _ d => uptoBulk d + 1
  | .map entries => uptoBulkEntries entries + 1
  | .held _ => 1
def uptoBulkAll {H : Type} : List (DataW H) → Nat
  | [] => 0
  | d :: r => uptoBulk d + uptoBulkAll r
def uptoBulkEntries {H : Type} : List (Lit × DataW H) → Nat
  | [] => 0
  | x :: r => uptoBulkEntry x + uptoBulkEntries r
def uptoBulkEntry {H : Type} : Lit × DataW H → Nat
  | (.string bytes, d) => bytes.length + uptoBulk d + 1
  | (_, d) => uptoBulk d + 1
 end
def uptoSmall : (H : Type) → List (DataW H) → Bool := fun _ ds => decide (uptoBulkAll ds ≤ 1048576)
def OpenSpec.upto (s : _root_.Go.ChangeSpec) : _root_.Go.OpenSpec := { _root_.Go.OpenSpec.ofChange s with cond := some uptoSmall }

/-- 'tumblehomelaw10.TrialWeights', WHERE WHAT IT READS IS OF BULK AT MOST 1048576: true; the input reads as it did. -/
def trialWeightsUptoRow : OpenClaim := { program := "ytkiaepcklbidgaa", sum := "6b4e07f599bdc3e7d16a29e057a8b9a077ed94a8872ca80eccf5e1e2d442af22", func := "tumblehome/tumblehomelaw10.TrialWeights", spec := "trialWeights", unfollowed := true, recurses := true, apart := false, narrowed := true }
def TrialWeightsUptoSaid : Prop := trialWeightsUptoRow.holds Try.pinned (OpenSpec.upto trialWeightsSpec)

/-- 'tumblehomelaw10.TrialMeans', WHERE WHAT IT READS IS OF BULK AT MOST 1048576: true; the input reads as it did. -/
def trialMeansUptoRow : OpenClaim := { program := "ytkiaepcklbidgaa", sum := "6b4e07f599bdc3e7d16a29e057a8b9a077ed94a8872ca80eccf5e1e2d442af22", func := "tumblehome/tumblehomelaw10.TrialMeans", spec := "trialMeans", unfollowed := true, recurses := true, apart := false, narrowed := true }
def TrialMeansUptoSaid : Prop := trialMeansUptoRow.holds Try.pinned (OpenSpec.upto trialMeansSpec)

/-- 'tumblehomelaw10.TrialPays', WHERE WHAT IT READS IS OF BULK AT MOST 1048576: true; the input reads as it did. -/
def trialPaysUptoRow : OpenClaim := { program := "ytkiaepcklbidgaa", sum := "6b4e07f599bdc3e7d16a29e057a8b9a077ed94a8872ca80eccf5e1e2d442af22", func := "tumblehome/tumblehomelaw10.TrialPays", spec := "trialPays", unfollowed := true, recurses := true, apart := false, narrowed := true }
def TrialPaysUptoSaid : Prop := trialPaysUptoRow.holds Try.pinned (OpenSpec.upto trialPaysSpec)

/-- 'tumblehomelaw10.TrialCancels', WHERE WHAT IT READS IS OF BULK AT MOST 1048576: true; the input reads as it did. -/
def trialCancelsUptoRow : OpenClaim := { program := "ytkiaepcklbidgaa", sum := "6b4e07f599bdc3e7d16a29e057a8b9a077ed94a8872ca80eccf5e1e2d442af22", func := "tumblehome/tumblehomelaw10.TrialCancels", spec := "trialCancels", unfollowed := true, recurses := true, apart := false, narrowed := true }
def TrialCancelsUptoSaid : Prop := trialCancelsUptoRow.holds Try.pinned (OpenSpec.upto trialCancelsSpec)

/-- 'tumblehomelaw10.TrialFooled', WHERE WHAT IT READS IS OF BULK AT MOST 1048576: true; the input reads as it did. -/
def trialFooledUptoRow : OpenClaim := { program := "ytkiaepcklbidgaa", sum := "6b4e07f599bdc3e7d16a29e057a8b9a077ed94a8872ca80eccf5e1e2d442af22", func := "tumblehome/tumblehomelaw10.TrialFooled", spec := "trialFooled", unfollowed := true, recurses := true, apart := false, narrowed := true }
def TrialFooledUptoSaid : Prop := trialFooledUptoRow.holds Try.pinned (OpenSpec.upto trialFooledSpec)

/-- 'tumblehomelaw10.TrialBoxed', WHERE WHAT IT READS IS OF BULK AT MOST 1048576: true; the input reads as it did. -/
def trialBoxedUptoRow : OpenClaim := { program := "ytkiaepcklbidgaa", sum := "6b4e07f599bdc3e7d16a29e057a8b9a077ed94a8872ca80eccf5e1e2d442af22", func := "tumblehome/tumblehomelaw10.TrialBoxed", spec := "trialBoxed", unfollowed := true, recurses := true, apart := false, narrowed := true }
def TrialBoxedUptoSaid : Prop := trialBoxedUptoRow.holds Try.pinned (OpenSpec.upto trialBoxedSpec)

/-- 'tumblehomelaw10.TrialShifted', WHERE WHAT IT READS IS OF BULK AT MOST 1048576: true; the input reads as it did. -/
def trialShiftedUptoRow : OpenClaim := { program := "ytkiaepcklbidgaa", sum := "6b4e07f599bdc3e7d16a29e057a8b9a077ed94a8872ca80eccf5e1e2d442af22", func := "tumblehome/tumblehomelaw10.TrialShifted", spec := "trialShifted", unfollowed := true, recurses := true, apart := false, narrowed := true }
def TrialShiftedUptoSaid : Prop := trialShiftedUptoRow.holds Try.pinned (OpenSpec.upto trialShiftedSpec)

/-- 'tumblehomelaw10.TrialPaid', WHERE WHAT IT READS IS OF BULK AT MOST 1048576: true; the input reads as it did. -/
def trialPaidUptoRow : OpenClaim := { program := "ytkiaepcklbidgaa", sum := "6b4e07f599bdc3e7d16a29e057a8b9a077ed94a8872ca80eccf5e1e2d442af22", func := "tumblehome/tumblehomelaw10.TrialPaid", spec := "trialPaid", unfollowed := true, recurses := true, apart := false, narrowed := true }
def TrialPaidUptoSaid : Prop := trialPaidUptoRow.holds Try.pinned (OpenSpec.upto trialPaidSpec)

/-- 'tumblehomelaw10.TrialKnown', WHERE WHAT IT READS IS OF BULK AT MOST 1048576: true; the input reads as it did. -/
def trialKnownUptoRow : OpenClaim := { program := "ytkiaepcklbidgaa", sum := "6b4e07f599bdc3e7d16a29e057a8b9a077ed94a8872ca80eccf5e1e2d442af22", func := "tumblehome/tumblehomelaw10.TrialKnown", spec := "trialKnown", unfollowed := true, recurses := true, apart := false, narrowed := true }
def TrialKnownUptoSaid : Prop := trialKnownUptoRow.holds Try.pinned (OpenSpec.upto trialKnownSpec)

end Rows
end Go.Proofs.Ytkiaepcklbidgaa
