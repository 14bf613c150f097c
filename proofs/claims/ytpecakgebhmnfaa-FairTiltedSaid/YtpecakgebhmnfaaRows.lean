/-
  No cell of these rows narrows 'for every input' (looked for: loops, veiled, ifaces, maps, wideKeys, modest, calm, conditions, laid).
  DERIVED. THE GIVEN ROWS OF THIS SEAT. 10 by the template 'for every input the law returns true; each argument reads behind the call as it read before'; 0 by the template 'total and deterministic' (their statements: YtpecakgebhmnfaaTotals.lean).
  GIVEN WITH THE SEED: the statements are not yours to turn. If you find one false, say at which input.
  Laid BY PROGRAM, IN A SANDBOX (cutbox-rows.mjs): the forced cells as the released guide's own fill.sh prints them over the translation 32ae3821c7dda93c… (all of the seat's roots in one cut). By AI agents, Wed Nov 11 2026. No macro, syntax, notation, axiom, sorry.
-/
import Derived.Test.YtpecakgebhmnfaaChecked
import GoSem.Claim
import GoSem.ClaimJoined
import GoSem.ClaimMapViews
import Derived.JoinedTies
import Derived.KernelRfl
namespace Go.Proofs.Ytpecakgebhmnfaa
/- THE CELL 'sum', in the pinned program and in every row, IS THE sha256 OF THE DUMP (.gsa) THAT YtpecakgebhmnfaaProg.lean LOADS. Nothing in Lean hashes anything: it is a label: what it is worth is what the hold of that sum in a sandbox is worth. -/
noncomputable def Try.pinned : Pinned := { name := "ytpecakgebhmnfaa", sum := "32ae3821c7dda93cd64788990db45d5ec88834956d544d729c0c64581f7b4da7", checked := Try.checked }
namespace Rows
def none {H : Type} : Left H := { results := [], args := [] }

/-- 'tumblehomelaw01.FairMeasures': WHATEVER THE INPUT: true; the input reads as it did. -/
def fairMeasuresSpec : ChangeSpec := { name := "fairMeasures", fn := fun _ => fun
  | [d1, d2] => { results := [.lit (.bool true)], args := [d1, d2] }
  | _ => none }
def fairMeasuresRow : OpenClaim := { program := "ytpecakgebhmnfaa", sum := "32ae3821c7dda93cd64788990db45d5ec88834956d544d729c0c64581f7b4da7", func := "tumblehome/tumblehomelaw01.FairMeasures", spec := "fairMeasures", unfollowed := true, recurses := true, plainKeys := false, apart := false }
def FairMeasuresSaid : Prop := fairMeasuresRow.holds Try.pinned (OpenSpec.ofChange fairMeasuresSpec)

/-- ITS FALSE NEIGHBOUR: 'it returns false'. Refute it at one input. -/
def fairMeasuresWrong : ChangeSpec := { name := "fairMeasures", fn := fun _ => fun
  | [d1, d2] => { results := [.lit (.bool false)], args := [d1, d2] }
  | _ => none }
def FairMeasuresWrongFalsely : Prop := fairMeasuresRow.holds Try.pinned (OpenSpec.ofChange fairMeasuresWrong)

/-- 'tumblehomelaw01.FairFairest': WHATEVER THE INPUT: true; the input reads as it did. -/
def fairFairestSpec : ChangeSpec := { name := "fairFairest", fn := fun _ => fun
  | [d] => { results := [.lit (.bool true)], args := [d] }
  | _ => none }
def fairFairestRow : OpenClaim := { program := "ytpecakgebhmnfaa", sum := "32ae3821c7dda93cd64788990db45d5ec88834956d544d729c0c64581f7b4da7", func := "tumblehome/tumblehomelaw01.FairFairest", spec := "fairFairest", unfollowed := true, recurses := true, plainKeys := false, apart := false }
def FairFairestSaid : Prop := fairFairestRow.holds Try.pinned (OpenSpec.ofChange fairFairestSpec)

/-- ITS FALSE NEIGHBOUR: 'it returns false'. Refute it at one input. -/
def fairFairestWrong : ChangeSpec := { name := "fairFairest", fn := fun _ => fun
  | [d] => { results := [.lit (.bool false)], args := [d] }
  | _ => none }
def FairFairestWrongFalsely : Prop := fairFairestRow.holds Try.pinned (OpenSpec.ofChange fairFairestWrong)

/-- 'tumblehomelaw01.FairLabels': WHATEVER THE INPUT: true; the input reads as it did. -/
def fairLabelsSpec : ChangeSpec := { name := "fairLabels", fn := fun _ => fun
  | [d1, d2] => { results := [.lit (.bool true)], args := [d1, d2] }
  | _ => none }
def fairLabelsRow : OpenClaim := { program := "ytpecakgebhmnfaa", sum := "32ae3821c7dda93cd64788990db45d5ec88834956d544d729c0c64581f7b4da7", func := "tumblehome/tumblehomelaw01.FairLabels", spec := "fairLabels", unfollowed := true, recurses := true, plainKeys := false, apart := false }
def FairLabelsSaid : Prop := fairLabelsRow.holds Try.pinned (OpenSpec.ofChange fairLabelsSpec)

/-- ITS FALSE NEIGHBOUR: 'it returns false'. Refute it at one input. -/
def fairLabelsWrong : ChangeSpec := { name := "fairLabels", fn := fun _ => fun
  | [d1, d2] => { results := [.lit (.bool false)], args := [d1, d2] }
  | _ => none }
def FairLabelsWrongFalsely : Prop := fairLabelsRow.holds Try.pinned (OpenSpec.ofChange fairLabelsWrong)

/-- 'tumblehomelaw01.FairSpreads': WHATEVER THE INPUT: true; the input reads as it did. -/
def fairSpreadsSpec : ChangeSpec := { name := "fairSpreads", fn := fun _ => fun
  | [d1, d2] => { results := [.lit (.bool true)], args := [d1, d2] }
  | _ => none }
def fairSpreadsRow : OpenClaim := { program := "ytpecakgebhmnfaa", sum := "32ae3821c7dda93cd64788990db45d5ec88834956d544d729c0c64581f7b4da7", func := "tumblehome/tumblehomelaw01.FairSpreads", spec := "fairSpreads", unfollowed := true, recurses := true, plainKeys := false, apart := false }
def FairSpreadsSaid : Prop := fairSpreadsRow.holds Try.pinned (OpenSpec.ofChange fairSpreadsSpec)

/-- ITS FALSE NEIGHBOUR: 'it returns false'. Refute it at one input. -/
def fairSpreadsWrong : ChangeSpec := { name := "fairSpreads", fn := fun _ => fun
  | [d1, d2] => { results := [.lit (.bool false)], args := [d1, d2] }
  | _ => none }
def FairSpreadsWrongFalsely : Prop := fairSpreadsRow.holds Try.pinned (OpenSpec.ofChange fairSpreadsWrong)

/-- 'tumblehomelaw01.FairProved': WHATEVER THE INPUT: true; the input reads as it did. -/
def fairProvedSpec : ChangeSpec := { name := "fairProved", fn := fun _ => fun
  | [d1, d2, d3] => { results := [.lit (.bool true)], args := [d1, d2, d3] }
  | _ => none }
def fairProvedRow : OpenClaim := { program := "ytpecakgebhmnfaa", sum := "32ae3821c7dda93cd64788990db45d5ec88834956d544d729c0c64581f7b4da7", func := "tumblehome/tumblehomelaw01.FairProved", spec := "fairProved", unfollowed := true, recurses := true, plainKeys := false, apart := false }
def FairProvedSaid : Prop := fairProvedRow.holds Try.pinned (OpenSpec.ofChange fairProvedSpec)

/-- ITS FALSE NEIGHBOUR: 'it returns false'. Refute it at one input. -/
def fairProvedWrong : ChangeSpec := { name := "fairProved", fn := fun _ => fun
  | [d1, d2, d3] => { results := [.lit (.bool false)], args := [d1, d2, d3] }
  | _ => none }
def FairProvedWrongFalsely : Prop := fairProvedRow.holds Try.pinned (OpenSpec.ofChange fairProvedWrong)

/-- 'tumblehomelaw01.FairTilted': WHATEVER THE INPUT: true; the input reads as it did. -/
def fairTiltedSpec : ChangeSpec := { name := "fairTilted", fn := fun _ => fun
  | [d1, d2, d3, d4] => { results := [.lit (.bool true)], args := [d1, d2, d3, d4] }
  | _ => none }
def fairTiltedRow : OpenClaim := { program := "ytpecakgebhmnfaa", sum := "32ae3821c7dda93cd64788990db45d5ec88834956d544d729c0c64581f7b4da7", func := "tumblehome/tumblehomelaw01.FairTilted", spec := "fairTilted", unfollowed := true, recurses := true, plainKeys := false, apart := false }
def FairTiltedSaid : Prop := fairTiltedRow.holds Try.pinned (OpenSpec.ofChange fairTiltedSpec)

/-- ITS FALSE NEIGHBOUR: 'it returns false'. Refute it at one input. -/
def fairTiltedWrong : ChangeSpec := { name := "fairTilted", fn := fun _ => fun
  | [d1, d2, d3, d4] => { results := [.lit (.bool false)], args := [d1, d2, d3, d4] }
  | _ => none }
def FairTiltedWrongFalsely : Prop := fairTiltedRow.holds Try.pinned (OpenSpec.ofChange fairTiltedWrong)

/-- 'tumblehomelaw01.FairWider': WHATEVER THE INPUT: true; the input reads as it did. -/
def fairWiderSpec : ChangeSpec := { name := "fairWider", fn := fun _ => fun
  | [d1, d2, d3, d4, d5] => { results := [.lit (.bool true)], args := [d1, d2, d3, d4, d5] }
  | _ => none }
def fairWiderRow : OpenClaim := { program := "ytpecakgebhmnfaa", sum := "32ae3821c7dda93cd64788990db45d5ec88834956d544d729c0c64581f7b4da7", func := "tumblehome/tumblehomelaw01.FairWider", spec := "fairWider", unfollowed := true, recurses := true, plainKeys := false, apart := false }
def FairWiderSaid : Prop := fairWiderRow.holds Try.pinned (OpenSpec.ofChange fairWiderSpec)

/-- ITS FALSE NEIGHBOUR: 'it returns false'. Refute it at one input. -/
def fairWiderWrong : ChangeSpec := { name := "fairWider", fn := fun _ => fun
  | [d1, d2, d3, d4, d5] => { results := [.lit (.bool false)], args := [d1, d2, d3, d4, d5] }
  | _ => none }
def FairWiderWrongFalsely : Prop := fairWiderRow.holds Try.pinned (OpenSpec.ofChange fairWiderWrong)

/-- 'tumblehomelaw01.FairParts': WHATEVER THE INPUT: true; the input reads as it did. -/
def fairPartsSpec : ChangeSpec := { name := "fairParts", fn := fun _ => fun
  | [d1, d2, d3] => { results := [.lit (.bool true)], args := [d1, d2, d3] }
  | _ => none }
def fairPartsRow : OpenClaim := { program := "ytpecakgebhmnfaa", sum := "32ae3821c7dda93cd64788990db45d5ec88834956d544d729c0c64581f7b4da7", func := "tumblehome/tumblehomelaw01.FairParts", spec := "fairParts", unfollowed := true, recurses := true, plainKeys := false, apart := false }
def FairPartsSaid : Prop := fairPartsRow.holds Try.pinned (OpenSpec.ofChange fairPartsSpec)

/-- ITS FALSE NEIGHBOUR: 'it returns false'. Refute it at one input. -/
def fairPartsWrong : ChangeSpec := { name := "fairParts", fn := fun _ => fun
  | [d1, d2, d3] => { results := [.lit (.bool false)], args := [d1, d2, d3] }
  | _ => none }
def FairPartsWrongFalsely : Prop := fairPartsRow.holds Try.pinned (OpenSpec.ofChange fairPartsWrong)

/-- 'tumblehomelaw01.FairWithin': WHATEVER THE INPUT: true; the input reads as it did. -/
def fairWithinSpec : ChangeSpec := { name := "fairWithin", fn := fun _ => fun
  | [d1, d2, d3, d4] => { results := [.lit (.bool true)], args := [d1, d2, d3, d4] }
  | _ => none }
def fairWithinRow : OpenClaim := { program := "ytpecakgebhmnfaa", sum := "32ae3821c7dda93cd64788990db45d5ec88834956d544d729c0c64581f7b4da7", func := "tumblehome/tumblehomelaw01.FairWithin", spec := "fairWithin", unfollowed := true, recurses := true, plainKeys := false, apart := false }
def FairWithinSaid : Prop := fairWithinRow.holds Try.pinned (OpenSpec.ofChange fairWithinSpec)

/-- ITS FALSE NEIGHBOUR: 'it returns false'. Refute it at one input. -/
def fairWithinWrong : ChangeSpec := { name := "fairWithin", fn := fun _ => fun
  | [d1, d2, d3, d4] => { results := [.lit (.bool false)], args := [d1, d2, d3, d4] }
  | _ => none }
def FairWithinWrongFalsely : Prop := fairWithinRow.holds Try.pinned (OpenSpec.ofChange fairWithinWrong)

/-- 'tumblehomelaw01.FairKnown': WHATEVER THE INPUT: true; the input reads as it did. -/
def fairKnownSpec : ChangeSpec := { name := "fairKnown", fn := fun _ => fun
  | [] => { results := [.lit (.bool true)], args := [] }
  | _ => none }
def fairKnownRow : OpenClaim := { program := "ytpecakgebhmnfaa", sum := "32ae3821c7dda93cd64788990db45d5ec88834956d544d729c0c64581f7b4da7", func := "tumblehome/tumblehomelaw01.FairKnown", spec := "fairKnown", unfollowed := true, recurses := true, plainKeys := false, apart := false }
def FairKnownSaid : Prop := fairKnownRow.holds Try.pinned (OpenSpec.ofChange fairKnownSpec)

/-- ITS FALSE NEIGHBOUR: 'it returns false'. Refute it at one input. -/
def fairKnownWrong : ChangeSpec := { name := "fairKnown", fn := fun _ => fun
  | [] => { results := [.lit (.bool false)], args := [] }
  | _ => none }
def FairKnownWrongFalsely : Prop := fairKnownRow.holds Try.pinned (OpenSpec.ofChange fairKnownWrong)

/- THE SECOND FORM. 'bulk': how many values and letters a reading holds, each counted each time it is reached (what is shared counts as often as it is met; a slice's spare places count too). A statement '..UptoSaid' is the law's where the arguments, and the package variables that the reading takes, are together of bulk at most 1048576: NARROWER than '..Said'. Prove '..Said' where nothing that the law and all that it calls make is longer than what came in: it says more and counts as full. Else prove '..UptoSaid'. A law counts once. -/
mutual
def uptoBulk {H : Type} : DataW H → Nat
  | .lit (.string bytes) => bytes.length + 1
  | .lit _ => 1
  | .nil => 1
  | .ptr d => uptoBulk d + 1
  | .slice elems spare => uptoBulkAll elems + uptoBulkAll spare + 1
  | .agg parts => uptoBulkAll parts + 1
  | .iface _ d => uptoBulk d + 1
  | .map entries => uptoBulkEntries entries + 1
  | .held _ => 1
def uptoBulkAll {H : Type} : List (DataW H) → Nat
  | [] => 0
  | d :: r => uptoBulk d + uptoBulkAll r
def uptoBulkEntries {H : Type} : List (Lit × DataW H) → Nat
  | [] => 0
  | x :: r => uptoBulkEntry x + uptoBulkEntries r
def uptoBulkEntry {H : Type} : Lit × DataW H → Nat
  | (.string bytes, d) => bytes.length + uptoBulk d + 1
  | (_, d) => uptoBulk d + 1
 end
def uptoSmall : (H : Type) → List (DataW H) → Bool := fun _ ds => decide (uptoBulkAll ds ≤ 1048576)
def OpenSpec.upto (s : _root_.Go.ChangeSpec) : _root_.Go.OpenSpec := { _root_.Go.OpenSpec.ofChange s with cond := some uptoSmall }

/-- 'tumblehomelaw01.FairMeasures', WHERE WHAT IT READS IS OF BULK AT MOST 1048576: true; the input reads as it did. -/
def fairMeasuresUptoRow : OpenClaim := { program := "ytpecakgebhmnfaa", sum := "32ae3821c7dda93cd64788990db45d5ec88834956d544d729c0c64581f7b4da7", func := "tumblehome/tumblehomelaw01.FairMeasures", spec := "fairMeasures", unfollowed := true, recurses := true, plainKeys := false, apart := false, narrowed := true }
def FairMeasuresUptoSaid : Prop := fairMeasuresUptoRow.holds Try.pinned (OpenSpec.upto fairMeasuresSpec)

/-- 'tumblehomelaw01.FairFairest', WHERE WHAT IT READS IS OF BULK AT MOST 1048576: true; the input reads as it did. -/
def fairFairestUptoRow : OpenClaim := { program := "ytpecakgebhmnfaa", sum := "32ae3821c7dda93cd64788990db45d5ec88834956d544d729c0c64581f7b4da7", func := "tumblehome/tumblehomelaw01.FairFairest", spec := "fairFairest", unfollowed := true, recurses := true, plainKeys := false, apart := false, narrowed := true }
def FairFairestUptoSaid : Prop := fairFairestUptoRow.holds Try.pinned (OpenSpec.upto fairFairestSpec)

/-- 'tumblehomelaw01.FairLabels', WHERE WHAT IT READS IS OF BULK AT MOST 1048576: true; the input reads as it did. -/
def fairLabelsUptoRow : OpenClaim := { program := "ytpecakgebhmnfaa", sum := "32ae3821c7dda93cd64788990db45d5ec88834956d544d729c0c64581f7b4da7", func := "tumblehome/tumblehomelaw01.FairLabels", spec := "fairLabels", unfollowed := true, recurses := true, plainKeys := false, apart := false, narrowed := true }
def FairLabelsUptoSaid : Prop := fairLabelsUptoRow.holds Try.pinned (OpenSpec.upto fairLabelsSpec)

/-- 'tumblehomelaw01.FairSpreads', WHERE WHAT IT READS IS OF BULK AT MOST 1048576: true; the input reads as it did. -/
def fairSpreadsUptoRow : OpenClaim := { program := "ytpecakgebhmnfaa", sum := "32ae3821c7dda93cd64788990db45d5ec88834956d544d729c0c64581f7b4da7", func := "tumblehome/tumblehomelaw01.FairSpreads", spec := "fairSpreads", unfollowed := true, recurses := true, plainKeys := false, apart := false, narrowed := true }
def FairSpreadsUptoSaid : Prop := fairSpreadsUptoRow.holds Try.pinned (OpenSpec.upto fairSpreadsSpec)

/-- 'tumblehomelaw01.FairProved', WHERE WHAT IT READS IS OF BULK AT MOST 1048576: true; the input reads as it did. -/
def fairProvedUptoRow : OpenClaim := { program := "ytpecakgebhmnfaa", sum := "32ae3821c7dda93cd64788990db45d5ec88834956d544d729c0c64581f7b4da7", func := "tumblehome/tumblehomelaw01.FairProved", spec := "fairProved", unfollowed := true, recurses := true, plainKeys := false, apart := false, narrowed := true }
def FairProvedUptoSaid : Prop := fairProvedUptoRow.holds Try.pinned (OpenSpec.upto fairProvedSpec)

/-- 'tumblehomelaw01.FairTilted', WHERE WHAT IT READS IS OF BULK AT MOST 1048576: true; the input reads as it did. -/
def fairTiltedUptoRow : OpenClaim := { program := "ytpecakgebhmnfaa", sum := "32ae3821c7dda93cd64788990db45d5ec88834956d544d729c0c64581f7b4da7", func := "tumblehome/tumblehomelaw01.FairTilted", spec := "fairTilted", unfollowed := true, recurses := true, plainKeys := false, apart := false, narrowed := true }
def FairTiltedUptoSaid : Prop := fairTiltedUptoRow.holds Try.pinned (OpenSpec.upto fairTiltedSpec)

/-- 'tumblehomelaw01.FairWider', WHERE WHAT IT READS IS OF BULK AT MOST 1048576: true; the input reads as it did. -/
def fairWiderUptoRow : OpenClaim := { program := "ytpecakgebhmnfaa", sum := "32ae3821c7dda93cd64788990db45d5ec88834956d544d729c0c64581f7b4da7", func := "tumblehome/tumblehomelaw01.FairWider", spec := "fairWider", unfollowed := true, recurses := true, plainKeys := false, apart := false, narrowed := true }
def FairWiderUptoSaid : Prop := fairWiderUptoRow.holds Try.pinned (OpenSpec.upto fairWiderSpec)

/-- 'tumblehomelaw01.FairParts', WHERE WHAT IT READS IS OF BULK AT MOST 1048576: true; the input reads as it did. -/
def fairPartsUptoRow : OpenClaim := { program := "ytpecakgebhmnfaa", sum := "32ae3821c7dda93cd64788990db45d5ec88834956d544d729c0c64581f7b4da7", func := "tumblehome/tumblehomelaw01.FairParts", spec := "fairParts", unfollowed := true, recurses := true, plainKeys := false, apart := false, narrowed := true }
def FairPartsUptoSaid : Prop := fairPartsUptoRow.holds Try.pinned (OpenSpec.upto fairPartsSpec)

/-- 'tumblehomelaw01.FairWithin', WHERE WHAT IT READS IS OF BULK AT MOST 1048576: true; the input reads as it did. -/
def fairWithinUptoRow : OpenClaim := { program := "ytpecakgebhmnfaa", sum := "32ae3821c7dda93cd64788990db45d5ec88834956d544d729c0c64581f7b4da7", func := "tumblehome/tumblehomelaw01.FairWithin", spec := "fairWithin", unfollowed := true, recurses := true, plainKeys := false, apart := false, narrowed := true }
def FairWithinUptoSaid : Prop := fairWithinUptoRow.holds Try.pinned (OpenSpec.upto fairWithinSpec)

/-- 'tumblehomelaw01.FairKnown', WHERE WHAT IT READS IS OF BULK AT MOST 1048576: true; the input reads as it did. -/
def fairKnownUptoRow : OpenClaim := { program := "ytpecakgebhmnfaa", sum := "32ae3821c7dda93cd64788990db45d5ec88834956d544d729c0c64581f7b4da7", func := "tumblehome/tumblehomelaw01.FairKnown", spec := "fairKnown", unfollowed := true, recurses := true, plainKeys := false, apart := false, narrowed := true }
def FairKnownUptoSaid : Prop := fairKnownUptoRow.holds Try.pinned (OpenSpec.upto fairKnownSpec)

end Rows
end Go.Proofs.Ytpecakgebhmnfaa
