/-
  No cell of these rows narrows 'for every input' (looked for: loops, veiled, ifaces, maps, wideKeys, modest, calm, conditions, laid).
  DERIVED. THE GIVEN ROWS OF THIS SEAT. 9 by the template 'for every input the law returns true; each argument reads behind the call as it read before'; 0 by the template 'total and deterministic' (their statements: YtgihklgpehfbpaaTotals.lean).
  GIVEN WITH THE SEED: the statements are not yours to turn. If you find one false, say at which input.
  Laid BY PROGRAM, IN A SANDBOX (cutbox-rows.mjs): the forced cells as the released guide's own fill.sh prints them over the translation 263c799ea2f9efc7… (all of the seat's roots in one cut). By AI agents, Wed Nov 11 2026. No macro, syntax, notation, axiom, sorry.
-/
import Derived.Test.YtgihklgpehfbpaaChecked
import GoSem.Claim
import GoSem.ClaimJoined
import GoSem.ClaimMapViews
import Derived.JoinedTies
import Derived.KernelRfl
namespace Go.Proofs.Ytgihklgpehfbpaa
/- THE CELL 'sum', in the pinned program and in every row, IS THE sha256 OF THE DUMP (.gsa) THAT YtgihklgpehfbpaaProg.lean LOADS. Nothing in Lean hashes anything: it is a label: what it is worth is what the hold of that sum in a sandbox is worth. -/
noncomputable def Try.pinned : Pinned := { name := "ytgihklgpehfbpaa", sum := "263c799ea2f9efc794c9b4d384bdf9ae88844267cc7c76bfe694e15189691657", checked := Try.checked }
namespace Rows
def none {H : Type} : Left H := { results := [], args := [] }

/-- 'tumblehomelaw02.BoxTrues': WHATEVER THE INPUT: true; the input reads as it did. -/
def boxTruesSpec : ChangeSpec := { name := "boxTrues", fn := fun _ => fun
  | [d1, d2, d3] => { results := [.lit (.bool true)], args := [d1, d2, d3] }
  | _ => none }
def boxTruesRow : OpenClaim := { program := "ytgihklgpehfbpaa", sum := "263c799ea2f9efc794c9b4d384bdf9ae88844267cc7c76bfe694e15189691657", func := "tumblehome/tumblehomelaw02.BoxTrues", spec := "boxTrues", unfollowed := true, recurses := true, apart := false }
def BoxTruesSaid : Prop := boxTruesRow.holds Try.pinned (OpenSpec.ofChange boxTruesSpec)

/-- ITS FALSE NEIGHBOUR: 'it returns false'. Refute it at one input. -/
def boxTruesWrong : ChangeSpec := { name := "boxTrues", fn := fun _ => fun
  | [d1, d2, d3] => { results := [.lit (.bool false)], args := [d1, d2, d3] }
  | _ => none }
def BoxTruesWrongFalsely : Prop := boxTruesRow.holds Try.pinned (OpenSpec.ofChange boxTruesWrong)

/-- 'tumblehomelaw02.BoxBounds': WHATEVER THE INPUT: true; the input reads as it did. -/
def boxBoundsSpec : ChangeSpec := { name := "boxBounds", fn := fun _ => fun
  | [d1, d2, d3, d4] => { results := [.lit (.bool true)], args := [d1, d2, d3, d4] }
  | _ => none }
def boxBoundsRow : OpenClaim := { program := "ytgihklgpehfbpaa", sum := "263c799ea2f9efc794c9b4d384bdf9ae88844267cc7c76bfe694e15189691657", func := "tumblehome/tumblehomelaw02.BoxBounds", spec := "boxBounds", unfollowed := true, recurses := true, apart := false }
def BoxBoundsSaid : Prop := boxBoundsRow.holds Try.pinned (OpenSpec.ofChange boxBoundsSpec)

/-- ITS FALSE NEIGHBOUR: 'it returns false'. Refute it at one input. -/
def boxBoundsWrong : ChangeSpec := { name := "boxBounds", fn := fun _ => fun
  | [d1, d2, d3, d4] => { results := [.lit (.bool false)], args := [d1, d2, d3, d4] }
  | _ => none }
def BoxBoundsWrongFalsely : Prop := boxBoundsRow.holds Try.pinned (OpenSpec.ofChange boxBoundsWrong)

/-- 'tumblehomelaw02.BoxAttained': WHATEVER THE INPUT: true; the input reads as it did. -/
def boxAttainedSpec : ChangeSpec := { name := "boxAttained", fn := fun _ => fun
  | [d1, d2, d3] => { results := [.lit (.bool true)], args := [d1, d2, d3] }
  | _ => none }
def boxAttainedRow : OpenClaim := { program := "ytgihklgpehfbpaa", sum := "263c799ea2f9efc794c9b4d384bdf9ae88844267cc7c76bfe694e15189691657", func := "tumblehome/tumblehomelaw02.BoxAttained", spec := "boxAttained", unfollowed := true, recurses := true, apart := false }
def BoxAttainedSaid : Prop := boxAttainedRow.holds Try.pinned (OpenSpec.ofChange boxAttainedSpec)

/-- ITS FALSE NEIGHBOUR: 'it returns false'. Refute it at one input. -/
def boxAttainedWrong : ChangeSpec := { name := "boxAttained", fn := fun _ => fun
  | [d1, d2, d3] => { results := [.lit (.bool false)], args := [d1, d2, d3] }
  | _ => none }
def BoxAttainedWrongFalsely : Prop := boxAttainedRow.holds Try.pinned (OpenSpec.ofChange boxAttainedWrong)

/-- 'tumblehomelaw02.BoxNarrower': WHATEVER THE INPUT: true; the input reads as it did. -/
def boxNarrowerSpec : ChangeSpec := { name := "boxNarrower", fn := fun _ => fun
  | [d1, d2, d3, d4] => { results := [.lit (.bool true)], args := [d1, d2, d3, d4] }
  | _ => none }
def boxNarrowerRow : OpenClaim := { program := "ytgihklgpehfbpaa", sum := "263c799ea2f9efc794c9b4d384bdf9ae88844267cc7c76bfe694e15189691657", func := "tumblehome/tumblehomelaw02.BoxNarrower", spec := "boxNarrower", unfollowed := true, recurses := true, apart := false }
def BoxNarrowerSaid : Prop := boxNarrowerRow.holds Try.pinned (OpenSpec.ofChange boxNarrowerSpec)

/-- ITS FALSE NEIGHBOUR: 'it returns false'. Refute it at one input. -/
def boxNarrowerWrong : ChangeSpec := { name := "boxNarrower", fn := fun _ => fun
  | [d1, d2, d3, d4] => { results := [.lit (.bool false)], args := [d1, d2, d3, d4] }
  | _ => none }
def BoxNarrowerWrongFalsely : Prop := boxNarrowerRow.holds Try.pinned (OpenSpec.ofChange boxNarrowerWrong)

/-- 'tumblehomelaw02.BoxScaled': WHATEVER THE INPUT: true; the input reads as it did. -/
def boxScaledSpec : ChangeSpec := { name := "boxScaled", fn := fun _ => fun
  | [d1, d2] => { results := [.lit (.bool true)], args := [d1, d2] }
  | _ => none }
def boxScaledRow : OpenClaim := { program := "ytgihklgpehfbpaa", sum := "263c799ea2f9efc794c9b4d384bdf9ae88844267cc7c76bfe694e15189691657", func := "tumblehome/tumblehomelaw02.BoxScaled", spec := "boxScaled", unfollowed := true, recurses := true, apart := false }
def BoxScaledSaid : Prop := boxScaledRow.holds Try.pinned (OpenSpec.ofChange boxScaledSpec)

/-- ITS FALSE NEIGHBOUR: 'it returns false'. Refute it at one input. -/
def boxScaledWrong : ChangeSpec := { name := "boxScaled", fn := fun _ => fun
  | [d1, d2] => { results := [.lit (.bool false)], args := [d1, d2] }
  | _ => none }
def BoxScaledWrongFalsely : Prop := boxScaledRow.holds Try.pinned (OpenSpec.ofChange boxScaledWrong)

/-- 'tumblehomelaw02.BoxFloats': WHATEVER THE INPUT: true; the input reads as it did. -/
def boxFloatsSpec : ChangeSpec := { name := "boxFloats", fn := fun _ => fun
  | [d1, d2] => { results := [.lit (.bool true)], args := [d1, d2] }
  | _ => none }
def boxFloatsRow : OpenClaim := { program := "ytgihklgpehfbpaa", sum := "263c799ea2f9efc794c9b4d384bdf9ae88844267cc7c76bfe694e15189691657", func := "tumblehome/tumblehomelaw02.BoxFloats", spec := "boxFloats", unfollowed := true, recurses := true, apart := false }
def BoxFloatsSaid : Prop := boxFloatsRow.holds Try.pinned (OpenSpec.ofChange boxFloatsSpec)

/-- ITS FALSE NEIGHBOUR: 'it returns false'. Refute it at one input. -/
def boxFloatsWrong : ChangeSpec := { name := "boxFloats", fn := fun _ => fun
  | [d1, d2] => { results := [.lit (.bool false)], args := [d1, d2] }
  | _ => none }
def BoxFloatsWrongFalsely : Prop := boxFloatsRow.holds Try.pinned (OpenSpec.ofChange boxFloatsWrong)

/-- 'tumblehomelaw02.BoxSpans': WHATEVER THE INPUT: true; the input reads as it did. -/
def boxSpansSpec : ChangeSpec := { name := "boxSpans", fn := fun _ => fun
  | [d1, d2, d3] => { results := [.lit (.bool true)], args := [d1, d2, d3] }
  | _ => none }
def boxSpansRow : OpenClaim := { program := "ytgihklgpehfbpaa", sum := "263c799ea2f9efc794c9b4d384bdf9ae88844267cc7c76bfe694e15189691657", func := "tumblehome/tumblehomelaw02.BoxSpans", spec := "boxSpans", unfollowed := true, recurses := true, apart := false }
def BoxSpansSaid : Prop := boxSpansRow.holds Try.pinned (OpenSpec.ofChange boxSpansSpec)

/-- ITS FALSE NEIGHBOUR: 'it returns false'. Refute it at one input. -/
def boxSpansWrong : ChangeSpec := { name := "boxSpans", fn := fun _ => fun
  | [d1, d2, d3] => { results := [.lit (.bool false)], args := [d1, d2, d3] }
  | _ => none }
def BoxSpansWrongFalsely : Prop := boxSpansRow.holds Try.pinned (OpenSpec.ofChange boxSpansWrong)

/-- 'tumblehomelaw02.BoxBoxed': WHATEVER THE INPUT: true; the input reads as it did. -/
def boxBoxedSpec : ChangeSpec := { name := "boxBoxed", fn := fun _ => fun
  | [d1, d2, d3, d4] => { results := [.lit (.bool true)], args := [d1, d2, d3, d4] }
  | _ => none }
def boxBoxedRow : OpenClaim := { program := "ytgihklgpehfbpaa", sum := "263c799ea2f9efc794c9b4d384bdf9ae88844267cc7c76bfe694e15189691657", func := "tumblehome/tumblehomelaw02.BoxBoxed", spec := "boxBoxed", unfollowed := true, recurses := true, apart := false }
def BoxBoxedSaid : Prop := boxBoxedRow.holds Try.pinned (OpenSpec.ofChange boxBoxedSpec)

/-- ITS FALSE NEIGHBOUR: 'it returns false'. Refute it at one input. -/
def boxBoxedWrong : ChangeSpec := { name := "boxBoxed", fn := fun _ => fun
  | [d1, d2, d3, d4] => { results := [.lit (.bool false)], args := [d1, d2, d3, d4] }
  | _ => none }
def BoxBoxedWrongFalsely : Prop := boxBoxedRow.holds Try.pinned (OpenSpec.ofChange boxBoxedWrong)

/-- 'tumblehomelaw02.BoxKnown': WHATEVER THE INPUT: true; the input reads as it did. -/
def boxKnownSpec : ChangeSpec := { name := "boxKnown", fn := fun _ => fun
  | [] => { results := [.lit (.bool true)], args := [] }
  | _ => none }
def boxKnownRow : OpenClaim := { program := "ytgihklgpehfbpaa", sum := "263c799ea2f9efc794c9b4d384bdf9ae88844267cc7c76bfe694e15189691657", func := "tumblehome/tumblehomelaw02.BoxKnown", spec := "boxKnown", unfollowed := true, recurses := true, apart := false }
def BoxKnownSaid : Prop := boxKnownRow.holds Try.pinned (OpenSpec.ofChange boxKnownSpec)

/-- ITS FALSE NEIGHBOUR: 'it returns false'. Refute it at one input. -/
def boxKnownWrong : ChangeSpec := { name := "boxKnown", fn := fun _ => fun
  | [] => { results := [.lit (.bool false)], args := [] }
  | _ => none }
def BoxKnownWrongFalsely : Prop := boxKnownRow.holds Try.pinned (OpenSpec.ofChange boxKnownWrong)

/- THE SECOND FORM. 'bulk': how many values and letters a reading holds, each counted each time it is reached (what is shared counts as often as it is met; a slice's spare places count too). A statement '..UptoSaid' is the law's where the arguments, and the package variables that the reading takes, are together of bulk at most 1048576: NARROWER than '..Said'. Prove '..Said' where nothing that the law and all that it calls make is longer than what came in: it says more and counts as full. Else prove '..UptoSaid'. A law counts once. -/
mutual
def uptoBulk {H : Type} : DataW H → Nat
  | .lit (.string bytes) => bytes.length + 1
  | .lit _ => 1
  | .nil => 1
  | .ptr d => uptoBulk d + 1
  | .slice elems spare => uptoBulkAll elems + uptoBulkAll spare + 1
  | .agg parts => uptoBulkAll parts + 1
  | .iface _ d => uptoBulk d + 1
  | .map entries => uptoBulkEntries entries + 1
  | .held _ => 1
def uptoBulkAll {H : Type} : List (DataW H) → Nat
  | [] => 0
  | d :: r => uptoBulk d + uptoBulkAll r
def uptoBulkEntries {H : Type} : List (Lit × DataW H) → Nat
  | [] => 0
  | x :: r => uptoBulkEntry x + uptoBulkEntries r
def uptoBulkEntry {H : Type} : Lit × DataW H → Nat
  | (.string bytes, d) => bytes.length + uptoBulk d + 1
  | (_, d) => uptoBulk d + 1
 end
def uptoSmall : (H : Type) → List (DataW H) → Bool := fun _ ds => decide (uptoBulkAll ds ≤ 1048576)
def OpenSpec.upto (s : _root_.Go.ChangeSpec) : _root_.Go.OpenSpec := { _root_.Go.OpenSpec.ofChange s with cond := some uptoSmall }

/-- 'tumblehomelaw02.BoxTrues', WHERE WHAT IT READS IS OF BULK AT MOST 1048576: true; the input reads as it did. -/
def boxTruesUptoRow : OpenClaim := { program := "ytgihklgpehfbpaa", sum := "263c799ea2f9efc794c9b4d384bdf9ae88844267cc7c76bfe694e15189691657", func := "tumblehome/tumblehomelaw02.BoxTrues", spec := "boxTrues", unfollowed := true, recurses := true, apart := false, narrowed := true }
def BoxTruesUptoSaid : Prop := boxTruesUptoRow.holds Try.pinned (OpenSpec.upto boxTruesSpec)

/-- 'tumblehomelaw02.BoxBounds', WHERE WHAT IT READS IS OF BULK AT MOST 1048576: true; the input reads as it did. -/
def boxBoundsUptoRow : OpenClaim := { program := "ytgihklgpehfbpaa", sum := "263c799ea2f9efc794c9b4d384bdf9ae88844267cc7c76bfe694e15189691657", func := "tumblehome/tumblehomelaw02.BoxBounds", spec := "boxBounds", unfollowed := true, recurses := true, apart := false, narrowed := true }
def BoxBoundsUptoSaid : Prop := boxBoundsUptoRow.holds Try.pinned (OpenSpec.upto boxBoundsSpec)

/-- 'tumblehomelaw02.BoxAttained', WHERE WHAT IT READS IS OF BULK AT MOST 1048576: true; the input reads as it did. -/
def boxAttainedUptoRow : OpenClaim := { program := "ytgihklgpehfbpaa", sum := "263c799ea2f9efc794c9b4d384bdf9ae88844267cc7c76bfe694e15189691657", func := "tumblehome/tumblehomelaw02.BoxAttained", spec := "boxAttained", unfollowed := true, recurses := true, apart := false, narrowed := true }
def BoxAttainedUptoSaid : Prop := boxAttainedUptoRow.holds Try.pinned (OpenSpec.upto boxAttainedSpec)

/-- 'tumblehomelaw02.BoxNarrower', WHERE WHAT IT READS IS OF BULK AT MOST 1048576: true; the input reads as it did. -/
def boxNarrowerUptoRow : OpenClaim := { program := "ytgihklgpehfbpaa", sum := "263c799ea2f9efc794c9b4d384bdf9ae88844267cc7c76bfe694e15189691657", func := "tumblehome/tumblehomelaw02.BoxNarrower", spec := "boxNarrower", unfollowed := true, recurses := true, apart := false, narrowed := true }
def BoxNarrowerUptoSaid : Prop := boxNarrowerUptoRow.holds Try.pinned (OpenSpec.upto boxNarrowerSpec)

/-- 'tumblehomelaw02.BoxScaled', WHERE WHAT IT READS IS OF BULK AT MOST 1048576: true; the input reads as it did. -/
def boxScaledUptoRow : OpenClaim := { program := "ytgihklgpehfbpaa", sum := "263c799ea2f9efc794c9b4d384bdf9ae88844267cc7c76bfe694e15189691657", func := "tumblehome/tumblehomelaw02.BoxScaled", spec := "boxScaled", unfollowed := true, recurses := true, apart := false, narrowed := true }
def BoxScaledUptoSaid : Prop := boxScaledUptoRow.holds Try.pinned (OpenSpec.upto boxScaledSpec)

/-- 'tumblehomelaw02.BoxFloats', WHERE WHAT IT READS IS OF BULK AT MOST 1048576: true; the input reads as it did. -/
def boxFloatsUptoRow : OpenClaim := { program := "ytgihklgpehfbpaa", sum := "263c799ea2f9efc794c9b4d384bdf9ae88844267cc7c76bfe694e15189691657", func := "tumblehome/tumblehomelaw02.BoxFloats", spec := "boxFloats", unfollowed := true, recurses := true, apart := false, narrowed := true }
def BoxFloatsUptoSaid : Prop := boxFloatsUptoRow.holds Try.pinned (OpenSpec.upto boxFloatsSpec)

/-- 'tumblehomelaw02.BoxSpans', WHERE WHAT IT READS IS OF BULK AT MOST 1048576: true; the input reads as it did. -/
def boxSpansUptoRow : OpenClaim := { program := "ytgihklgpehfbpaa", sum := "263c799ea2f9efc794c9b4d384bdf9ae88844267cc7c76bfe694e15189691657", func := "tumblehome/tumblehomelaw02.BoxSpans", spec := "boxSpans", unfollowed := true, recurses := true, apart := false, narrowed := true }
def BoxSpansUptoSaid : Prop := boxSpansUptoRow.holds Try.pinned (OpenSpec.upto boxSpansSpec)

/-- 'tumblehomelaw02.BoxBoxed', WHERE WHAT IT READS IS OF BULK AT MOST 1048576: true; the input reads as it did. -/
def boxBoxedUptoRow : OpenClaim := { program := "ytgihklgpehfbpaa", sum := "263c799ea2f9efc794c9b4d384bdf9ae88844267cc7c76bfe694e15189691657", func := "tumblehome/tumblehomelaw02.BoxBoxed", spec := "boxBoxed", unfollowed := true, recurses := true, apart := false, narrowed := true }
def BoxBoxedUptoSaid : Prop := boxBoxedUptoRow.holds Try.pinned (OpenSpec.upto boxBoxedSpec)

/-- 'tumblehomelaw02.BoxKnown', WHERE WHAT IT READS IS OF BULK AT MOST 1048576: true; the input reads as it did. -/
def boxKnownUptoRow : OpenClaim := { program := "ytgihklgpehfbpaa", sum := "263c799ea2f9efc794c9b4d384bdf9ae88844267cc7c76bfe694e15189691657", func := "tumblehome/tumblehomelaw02.BoxKnown", spec := "boxKnown", unfollowed := true, recurses := true, apart := false, narrowed := true }
def BoxKnownUptoSaid : Prop := boxKnownUptoRow.holds Try.pinned (OpenSpec.upto boxKnownSpec)

end Rows
end Go.Proofs.Ytgihklgpehfbpaa
