/-
  No cell of these rows narrows 'for every input' (looked for: loops, veiled, ifaces, maps, wideKeys, modest, calm, conditions, laid).
  DERIVED. THE GIVEN ROWS OF THIS SEAT. 11 by the template 'for every input the law returns true; each argument reads behind the call as it read before'; 0 by the template 'total and deterministic' (their statements: YtkhplcncfogolaaTotals.lean).
  GIVEN WITH THE SEED: the statements are not yours to turn. If you find one false, say at which input.
  Laid BY PROGRAM, IN A SANDBOX (cutbox-rows.mjs): the forced cells as the released guide's own fill.sh prints them over the translation 49fa1afcadff10ee… (all of the seat's roots in one cut). By AI agents, Wed Nov 11 2026. No macro, syntax, notation, axiom, sorry.
-/
import Derived.Test.YtkhplcncfogolaaChecked
import GoSem.Claim
import GoSem.ClaimJoined
import GoSem.ClaimMapViews
import Derived.JoinedTies
import Derived.KernelRfl
namespace Go.Proofs.Ytkhplcncfogolaa
/- THE CELL 'sum', in the pinned program and in every row, IS THE sha256 OF THE DUMP (.gsa) THAT YtkhplcncfogolaaProg.lean LOADS. Nothing in Lean hashes anything: it is a label: what it is worth is what the hold of that sum in a sandbox is worth. -/
noncomputable def Try.pinned : Pinned := { name := "ytkhplcncfogolaa", sum := "49fa1afcadff10ee345dcf7d11f9dad2751e1263d3173185663c7494df3dff17", checked := Try.checked }
namespace Rows
def none {H : Type} : Left H := { results := [], args := [] }

/-- 'tumblehomelaw11.TurnSmallest': WHATEVER THE INPUT: true; the input reads as it did. -/
def turnSmallestSpec : ChangeSpec := { name := "turnSmallest", fn := fun _ => fun
  | [d] => { results := [.lit (.bool true)], args := [d] }
  | _ => none }
def turnSmallestRow : OpenClaim := { program := "ytkhplcncfogolaa", sum := "49fa1afcadff10ee345dcf7d11f9dad2751e1263d3173185663c7494df3dff17", func := "tumblehome/tumblehomelaw11.TurnSmallest", spec := "turnSmallest", unfollowed := true, recurses := true, apart := false }
def TurnSmallestSaid : Prop := turnSmallestRow.holds Try.pinned (OpenSpec.ofChange turnSmallestSpec)

/-- ITS FALSE NEIGHBOUR: 'it returns false'. Refute it at one input. -/
def turnSmallestWrong : ChangeSpec := { name := "turnSmallest", fn := fun _ => fun
  | [d] => { results := [.lit (.bool false)], args := [d] }
  | _ => none }
def TurnSmallestWrongFalsely : Prop := turnSmallestRow.holds Try.pinned (OpenSpec.ofChange turnSmallestWrong)

/-- 'tumblehomelaw11.TurnGrows': WHATEVER THE INPUT: true; the input reads as it did. -/
def turnGrowsSpec : ChangeSpec := { name := "turnGrows", fn := fun _ => fun
  | [d] => { results := [.lit (.bool true)], args := [d] }
  | _ => none }
def turnGrowsRow : OpenClaim := { program := "ytkhplcncfogolaa", sum := "49fa1afcadff10ee345dcf7d11f9dad2751e1263d3173185663c7494df3dff17", func := "tumblehome/tumblehomelaw11.TurnGrows", spec := "turnGrows", unfollowed := true, recurses := true, apart := false }
def TurnGrowsSaid : Prop := turnGrowsRow.holds Try.pinned (OpenSpec.ofChange turnGrowsSpec)

/-- ITS FALSE NEIGHBOUR: 'it returns false'. Refute it at one input. -/
def turnGrowsWrong : ChangeSpec := { name := "turnGrows", fn := fun _ => fun
  | [d] => { results := [.lit (.bool false)], args := [d] }
  | _ => none }
def TurnGrowsWrongFalsely : Prop := turnGrowsRow.holds Try.pinned (OpenSpec.ofChange turnGrowsWrong)

/-- 'tumblehomelaw11.TurnMoved': WHATEVER THE INPUT: true; the input reads as it did. -/
def turnMovedSpec : ChangeSpec := { name := "turnMoved", fn := fun _ => fun
  | [d1, d2, d3, d4] => { results := [.lit (.bool true)], args := [d1, d2, d3, d4] }
  | _ => none }
def turnMovedRow : OpenClaim := { program := "ytkhplcncfogolaa", sum := "49fa1afcadff10ee345dcf7d11f9dad2751e1263d3173185663c7494df3dff17", func := "tumblehome/tumblehomelaw11.TurnMoved", spec := "turnMoved", unfollowed := true, recurses := true, apart := false }
def TurnMovedSaid : Prop := turnMovedRow.holds Try.pinned (OpenSpec.ofChange turnMovedSpec)

/-- ITS FALSE NEIGHBOUR: 'it returns false'. Refute it at one input. -/
def turnMovedWrong : ChangeSpec := { name := "turnMoved", fn := fun _ => fun
  | [d1, d2, d3, d4] => { results := [.lit (.bool false)], args := [d1, d2, d3, d4] }
  | _ => none }
def TurnMovedWrongFalsely : Prop := turnMovedRow.holds Try.pinned (OpenSpec.ofChange turnMovedWrong)

/-- 'tumblehomelaw11.TurnGrown': WHATEVER THE INPUT: true; the input reads as it did. -/
def turnGrownSpec : ChangeSpec := { name := "turnGrown", fn := fun _ => fun
  | [d1, d2] => { results := [.lit (.bool true)], args := [d1, d2] }
  | _ => none }
def turnGrownRow : OpenClaim := { program := "ytkhplcncfogolaa", sum := "49fa1afcadff10ee345dcf7d11f9dad2751e1263d3173185663c7494df3dff17", func := "tumblehome/tumblehomelaw11.TurnGrown", spec := "turnGrown", unfollowed := true, recurses := true, apart := false }
def TurnGrownSaid : Prop := turnGrownRow.holds Try.pinned (OpenSpec.ofChange turnGrownSpec)

/-- ITS FALSE NEIGHBOUR: 'it returns false'. Refute it at one input. -/
def turnGrownWrong : ChangeSpec := { name := "turnGrown", fn := fun _ => fun
  | [d1, d2] => { results := [.lit (.bool false)], args := [d1, d2] }
  | _ => none }
def TurnGrownWrongFalsely : Prop := turnGrownRow.holds Try.pinned (OpenSpec.ofChange turnGrownWrong)

/-- 'tumblehomelaw11.TurnFar': WHATEVER THE INPUT: true; the input reads as it did. -/
def turnFarSpec : ChangeSpec := { name := "turnFar", fn := fun _ => fun
  | [d] => { results := [.lit (.bool true)], args := [d] }
  | _ => none }
def turnFarRow : OpenClaim := { program := "ytkhplcncfogolaa", sum := "49fa1afcadff10ee345dcf7d11f9dad2751e1263d3173185663c7494df3dff17", func := "tumblehome/tumblehomelaw11.TurnFar", spec := "turnFar", unfollowed := true, recurses := true, apart := false }
def TurnFarSaid : Prop := turnFarRow.holds Try.pinned (OpenSpec.ofChange turnFarSpec)

/-- ITS FALSE NEIGHBOUR: 'it returns false'. Refute it at one input. -/
def turnFarWrong : ChangeSpec := { name := "turnFar", fn := fun _ => fun
  | [d] => { results := [.lit (.bool false)], args := [d] }
  | _ => none }
def TurnFarWrongFalsely : Prop := turnFarRow.holds Try.pinned (OpenSpec.ofChange turnFarWrong)

/-- 'tumblehomelaw11.TurnThree': WHATEVER THE INPUT: true; the input reads as it did. -/
def turnThreeSpec : ChangeSpec := { name := "turnThree", fn := fun _ => fun
  | [d1, d2, d3] => { results := [.lit (.bool true)], args := [d1, d2, d3] }
  | _ => none }
def turnThreeRow : OpenClaim := { program := "ytkhplcncfogolaa", sum := "49fa1afcadff10ee345dcf7d11f9dad2751e1263d3173185663c7494df3dff17", func := "tumblehome/tumblehomelaw11.TurnThree", spec := "turnThree", unfollowed := true, recurses := true, apart := false }
def TurnThreeSaid : Prop := turnThreeRow.holds Try.pinned (OpenSpec.ofChange turnThreeSpec)

/-- ITS FALSE NEIGHBOUR: 'it returns false'. Refute it at one input. -/
def turnThreeWrong : ChangeSpec := { name := "turnThree", fn := fun _ => fun
  | [d1, d2, d3] => { results := [.lit (.bool false)], args := [d1, d2, d3] }
  | _ => none }
def TurnThreeWrongFalsely : Prop := turnThreeRow.holds Try.pinned (OpenSpec.ofChange turnThreeWrong)

/-- 'tumblehomelaw11.TurnMore': WHATEVER THE INPUT: true; the input reads as it did. -/
def turnMoreSpec : ChangeSpec := { name := "turnMore", fn := fun _ => fun
  | [d1, d2] => { results := [.lit (.bool true)], args := [d1, d2] }
  | _ => none }
def turnMoreRow : OpenClaim := { program := "ytkhplcncfogolaa", sum := "49fa1afcadff10ee345dcf7d11f9dad2751e1263d3173185663c7494df3dff17", func := "tumblehome/tumblehomelaw11.TurnMore", spec := "turnMore", unfollowed := true, recurses := true, apart := false }
def TurnMoreSaid : Prop := turnMoreRow.holds Try.pinned (OpenSpec.ofChange turnMoreSpec)

/-- ITS FALSE NEIGHBOUR: 'it returns false'. Refute it at one input. -/
def turnMoreWrong : ChangeSpec := { name := "turnMore", fn := fun _ => fun
  | [d1, d2] => { results := [.lit (.bool false)], args := [d1, d2] }
  | _ => none }
def TurnMoreWrongFalsely : Prop := turnMoreRow.holds Try.pinned (OpenSpec.ofChange turnMoreWrong)

/-- 'tumblehomelaw11.TurnHolds': WHATEVER THE INPUT: true; the input reads as it did. -/
def turnHoldsSpec : ChangeSpec := { name := "turnHolds", fn := fun _ => fun
  | [d1, d2, d3, d4, d5] => { results := [.lit (.bool true)], args := [d1, d2, d3, d4, d5] }
  | _ => none }
def turnHoldsRow : OpenClaim := { program := "ytkhplcncfogolaa", sum := "49fa1afcadff10ee345dcf7d11f9dad2751e1263d3173185663c7494df3dff17", func := "tumblehome/tumblehomelaw11.TurnHolds", spec := "turnHolds", unfollowed := true, recurses := true, apart := false }
def TurnHoldsSaid : Prop := turnHoldsRow.holds Try.pinned (OpenSpec.ofChange turnHoldsSpec)

/-- ITS FALSE NEIGHBOUR: 'it returns false'. Refute it at one input. -/
def turnHoldsWrong : ChangeSpec := { name := "turnHolds", fn := fun _ => fun
  | [d1, d2, d3, d4, d5] => { results := [.lit (.bool false)], args := [d1, d2, d3, d4, d5] }
  | _ => none }
def TurnHoldsWrongFalsely : Prop := turnHoldsRow.holds Try.pinned (OpenSpec.ofChange turnHoldsWrong)

/-- 'tumblehomelaw11.TurnRims': WHATEVER THE INPUT: true; the input reads as it did. -/
def turnRimsSpec : ChangeSpec := { name := "turnRims", fn := fun _ => fun
  | [d1, d2] => { results := [.lit (.bool true)], args := [d1, d2] }
  | _ => none }
def turnRimsRow : OpenClaim := { program := "ytkhplcncfogolaa", sum := "49fa1afcadff10ee345dcf7d11f9dad2751e1263d3173185663c7494df3dff17", func := "tumblehome/tumblehomelaw11.TurnRims", spec := "turnRims", unfollowed := true, recurses := true, apart := false }
def TurnRimsSaid : Prop := turnRimsRow.holds Try.pinned (OpenSpec.ofChange turnRimsSpec)

/-- ITS FALSE NEIGHBOUR: 'it returns false'. Refute it at one input. -/
def turnRimsWrong : ChangeSpec := { name := "turnRims", fn := fun _ => fun
  | [d1, d2] => { results := [.lit (.bool false)], args := [d1, d2] }
  | _ => none }
def TurnRimsWrongFalsely : Prop := turnRimsRow.holds Try.pinned (OpenSpec.ofChange turnRimsWrong)

/-- 'tumblehomelaw11.TurnHeld': WHATEVER THE INPUT: true; the input reads as it did. -/
def turnHeldSpec : ChangeSpec := { name := "turnHeld", fn := fun _ => fun
  | [d1, d2, d3] => { results := [.lit (.bool true)], args := [d1, d2, d3] }
  | _ => none }
def turnHeldRow : OpenClaim := { program := "ytkhplcncfogolaa", sum := "49fa1afcadff10ee345dcf7d11f9dad2751e1263d3173185663c7494df3dff17", func := "tumblehome/tumblehomelaw11.TurnHeld", spec := "turnHeld", unfollowed := true, recurses := true, apart := false }
def TurnHeldSaid : Prop := turnHeldRow.holds Try.pinned (OpenSpec.ofChange turnHeldSpec)

/-- ITS FALSE NEIGHBOUR: 'it returns false'. Refute it at one input. -/
def turnHeldWrong : ChangeSpec := { name := "turnHeld", fn := fun _ => fun
  | [d1, d2, d3] => { results := [.lit (.bool false)], args := [d1, d2, d3] }
  | _ => none }
def TurnHeldWrongFalsely : Prop := turnHeldRow.holds Try.pinned (OpenSpec.ofChange turnHeldWrong)

/-- 'tumblehomelaw11.TurnKnown': WHATEVER THE INPUT: true; the input reads as it did. -/
def turnKnownSpec : ChangeSpec := { name := "turnKnown", fn := fun _ => fun
  | [] => { results := [.lit (.bool true)], args := [] }
  | _ => none }
def turnKnownRow : OpenClaim := { program := "ytkhplcncfogolaa", sum := "49fa1afcadff10ee345dcf7d11f9dad2751e1263d3173185663c7494df3dff17", func := "tumblehome/tumblehomelaw11.TurnKnown", spec := "turnKnown", unfollowed := true, recurses := true, apart := false }
def TurnKnownSaid : Prop := turnKnownRow.holds Try.pinned (OpenSpec.ofChange turnKnownSpec)

/-- ITS FALSE NEIGHBOUR: 'it returns false'. Refute it at one input. -/
def turnKnownWrong : ChangeSpec := { name := "turnKnown", fn := fun _ => fun
  | [] => { results := [.lit (.bool false)], args := [] }
  | _ => none }
def TurnKnownWrongFalsely : Prop := turnKnownRow.holds Try.pinned (OpenSpec.ofChange turnKnownWrong)

/- THE SECOND FORM. 'bulk': how many values and letters a reading holds, each counted each time it is reached (what is shared counts as often as it is met; a slice's spare places count too). A statement '..UptoSaid' is the law's where the arguments, and the package variables that the reading takes, are together of bulk at most 1048576: NARROWER than '..Said'. Prove '..Said' where nothing that the law and all that it calls make is longer than what came in: it says more and counts as full. Else prove '..UptoSaid'. A law counts once. -/
mutual
def uptoBulk {H : Type} : DataW H → Nat
  | .lit (.string bytes) => bytes.length + 1
  | .lit _ => 1
  | .nil => 1
  | .ptr d => uptoBulk d + 1
  | .slice elems spare => uptoBulkAll elems + uptoBulkAll spare + 1
  | .agg parts => uptoBulkAll parts + 1
  | .iface _ d => uptoBulk d + 1
  | .map entries => uptoBulkEntries entries + 1
  | .held _ => 1
def uptoBulkAll {H : Type} : List (DataW H) → Nat
  | [] => 0
  | d :: r => uptoBulk d + uptoBulkAll r
def uptoBulkEntries {H : Type} : List (Lit × DataW H) → Nat
  | [] => 0
  | x :: r => uptoBulkEntry x + uptoBulkEntries r
def uptoBulkEntry {H : Type} : Lit × DataW H → Nat
  | (.string bytes, d) => bytes.length + uptoBulk d + 1
  | (_, d) => uptoBulk d + 1
 end
def uptoSmall : (H : Type) → List (DataW H) → Bool := fun _ ds => decide (uptoBulkAll ds ≤ 1048576)
def OpenSpec.upto (s : _root_.Go.ChangeSpec) : _root_.Go.OpenSpec := { _root_.Go.OpenSpec.ofChange s with cond := some uptoSmall }

/-- 'tumblehomelaw11.TurnSmallest', WHERE WHAT IT READS IS OF BULK AT MOST 1048576: true; the input reads as it did. -/
def turnSmallestUptoRow : OpenClaim := { program := "ytkhplcncfogolaa", sum := "49fa1afcadff10ee345dcf7d11f9dad2751e1263d3173185663c7494df3dff17", func := "tumblehome/tumblehomelaw11.TurnSmallest", spec := "turnSmallest", unfollowed := true, recurses := true, apart := false, narrowed := true }
def TurnSmallestUptoSaid : Prop := turnSmallestUptoRow.holds Try.pinned (OpenSpec.upto turnSmallestSpec)

/-- 'tumblehomelaw11.TurnGrows', WHERE WHAT IT READS IS OF BULK AT MOST 1048576: true; the input reads as it did. -/
def turnGrowsUptoRow : OpenClaim := { program := "ytkhplcncfogolaa", sum := "49fa1afcadff10ee345dcf7d11f9dad2751e1263d3173185663c7494df3dff17", func := "tumblehome/tumblehomelaw11.TurnGrows", spec := "turnGrows", unfollowed := true, recurses := true, apart := false, narrowed := true }
def TurnGrowsUptoSaid : Prop := turnGrowsUptoRow.holds Try.pinned (OpenSpec.upto turnGrowsSpec)

/-- 'tumblehomelaw11.TurnMoved', WHERE WHAT IT READS IS OF BULK AT MOST 1048576: true; the input reads as it did. -/
def turnMovedUptoRow : OpenClaim := { program := "ytkhplcncfogolaa", sum := "49fa1afcadff10ee345dcf7d11f9dad2751e1263d3173185663c7494df3dff17", func := "tumblehome/tumblehomelaw11.TurnMoved", spec := "turnMoved", unfollowed := true, recurses := true, apart := false, narrowed := true }
def TurnMovedUptoSaid : Prop := turnMovedUptoRow.holds Try.pinned (OpenSpec.upto turnMovedSpec)

/-- 'tumblehomelaw11.TurnGrown', WHERE WHAT IT READS IS OF BULK AT MOST 1048576: true; the input reads as it did. -/
def turnGrownUptoRow : OpenClaim := { program := "ytkhplcncfogolaa", sum := "49fa1afcadff10ee345dcf7d11f9dad2751e1263d3173185663c7494df3dff17", func := "tumblehome/tumblehomelaw11.TurnGrown", spec := "turnGrown", unfollowed := true, recurses := true, apart := false, narrowed := true }
def TurnGrownUptoSaid : Prop := turnGrownUptoRow.holds Try.pinned (OpenSpec.upto turnGrownSpec)

/-- 'tumblehomelaw11.TurnFar', WHERE WHAT IT READS IS OF BULK AT MOST 1048576: true; the input reads as it did. -/
def turnFarUptoRow : OpenClaim := { program := "ytkhplcncfogolaa", sum := "49fa1afcadff10ee345dcf7d11f9dad2751e1263d3173185663c7494df3dff17", func := "tumblehome/tumblehomelaw11.TurnFar", spec := "turnFar", unfollowed := true, recurses := true, apart := false, narrowed := true }
def TurnFarUptoSaid : Prop := turnFarUptoRow.holds Try.pinned (OpenSpec.upto turnFarSpec)

/-- 'tumblehomelaw11.TurnThree', WHERE WHAT IT READS IS OF BULK AT MOST 1048576: true; the input reads as it did. -/
def turnThreeUptoRow : OpenClaim := { program := "ytkhplcncfogolaa", sum := "49fa1afcadff10ee345dcf7d11f9dad2751e1263d3173185663c7494df3dff17", func := "tumblehome/tumblehomelaw11.TurnThree", spec := "turnThree", unfollowed := true, recurses := true, apart := false, narrowed := true }
def TurnThreeUptoSaid : Prop := turnThreeUptoRow.holds Try.pinned (OpenSpec.upto turnThreeSpec)

/-- 'tumblehomelaw11.TurnMore', WHERE WHAT IT READS IS OF BULK AT MOST 1048576: true; the input reads as it did. -/
def turnMoreUptoRow : OpenClaim := { program := "ytkhplcncfogolaa", sum := "49fa1afcadff10ee345dcf7d11f9dad2751e1263d3173185663c7494df3dff17", func := "tumblehome/tumblehomelaw11.TurnMore", spec := "turnMore", unfollowed := true, recurses := true, apart := false, narrowed := true }
def TurnMoreUptoSaid : Prop := turnMoreUptoRow.holds Try.pinned (OpenSpec.upto turnMoreSpec)

/-- 'tumblehomelaw11.TurnHolds', WHERE WHAT IT READS IS OF BULK AT MOST 1048576: true; the input reads as it did. -/
def turnHoldsUptoRow : OpenClaim := { program := "ytkhplcncfogolaa", sum := "49fa1afcadff10ee345dcf7d11f9dad2751e1263d3173185663c7494df3dff17", func := "tumblehome/tumblehomelaw11.TurnHolds", spec := "turnHolds", unfollowed := true, recurses := true, apart := false, narrowed := true }
def TurnHoldsUptoSaid : Prop := turnHoldsUptoRow.holds Try.pinned (OpenSpec.upto turnHoldsSpec)

/-- 'tumblehomelaw11.TurnRims', WHERE WHAT IT READS IS OF BULK AT MOST 1048576: true; the input reads as it did. -/
def turnRimsUptoRow : OpenClaim := { program := "ytkhplcncfogolaa", sum := "49fa1afcadff10ee345dcf7d11f9dad2751e1263d3173185663c7494df3dff17", func := "tumblehome/tumblehomelaw11.TurnRims", spec := "turnRims", unfollowed := true, recurses := true, apart := false, narrowed := true }
def TurnRimsUptoSaid : Prop := turnRimsUptoRow.holds Try.pinned (OpenSpec.upto turnRimsSpec)

/-- 'tumblehomelaw11.TurnHeld', WHERE WHAT IT READS IS OF BULK AT MOST 1048576: true; the input reads as it did. -/
def turnHeldUptoRow : OpenClaim := { program := "ytkhplcncfogolaa", sum := "49fa1afcadff10ee345dcf7d11f9dad2751e1263d3173185663c7494df3dff17", func := "tumblehome/tumblehomelaw11.TurnHeld", spec := "turnHeld", unfollowed := true, recurses := true, apart := false, narrowed := true }
def TurnHeldUptoSaid : Prop := turnHeldUptoRow.holds Try.pinned (OpenSpec.upto turnHeldSpec)

/-- 'tumblehomelaw11.TurnKnown', WHERE WHAT IT READS IS OF BULK AT MOST 1048576: true; the input reads as it did. -/
def turnKnownUptoRow : OpenClaim := { program := "ytkhplcncfogolaa", sum := "49fa1afcadff10ee345dcf7d11f9dad2751e1263d3173185663c7494df3dff17", func := "tumblehome/tumblehomelaw11.TurnKnown", spec := "turnKnown", unfollowed := true, recurses := true, apart := false, narrowed := true }
def TurnKnownUptoSaid : Prop := turnKnownUptoRow.holds Try.pinned (OpenSpec.upto turnKnownSpec)

end Rows
end Go.Proofs.Ytkhplcncfogolaa
