/-
  No cell of these rows narrows 'for every input' (looked for: loops, veiled, ifaces, maps, wideKeys, modest, calm, conditions, laid).
  DERIVED. THE GIVEN ROWS OF THIS SEAT. 4 by the template 'for every input the law returns true; each argument reads behind the call as it read before'; 0 by the template 'total and deterministic' (their statements: YtncjabmlkgacdaaGreatTotals.lean).
  GIVEN WITH THE SEED: the statements are not yours to turn. If you find one false, say at which input.
  Laid BY PROGRAM, IN A SANDBOX (cutbox-rows.mjs): the forced cells as the released guide's own fill.sh prints them over the translation 3607e8f1e34660a1… (all of the seat's roots in one cut). By AI agents, Wed Nov 11 2026. No macro, syntax, notation, axiom, sorry.
-/
import Derived.Test.YtncjabmlkgacdaaGreatChecked
import GoSem.Claim
import GoSem.ClaimJoined
import GoSem.ClaimMapViews
import Derived.JoinedTies
import Derived.KernelRfl
namespace Go.Proofs.YtncjabmlkgacdaaGreat
/- THE CELL 'sum', in the pinned program and in every row, IS THE sha256 OF THE DUMP (.gsa) THAT YtncjabmlkgacdaaGreatProg.lean LOADS. Nothing in Lean hashes anything: it is a label: what it is worth is what the hold of that sum in a sandbox is worth. -/
noncomputable def Tryz.pinned : Pinned := { name := "ytncjabmlkgacdaagreat", sum := "3607e8f1e34660a120d5d33dbf4caa5054a71a0ad281cdea4b7f97bba3f2f5e1", checked := Tryz.checked }
namespace Rows
def none {H : Type} : Left H := { results := [], args := [] }

/-- 'tumblehometop.TopStraightSpots': WHATEVER THE INPUT: true; the input reads as it did. -/
def topStraightSpotsSpec : ChangeSpec := { name := "topStraightSpots", fn := fun _ => fun
  | [d1, d2] => { results := [.lit (.bool true)], args := [d1, d2] }
  | _ => none }
def topStraightSpotsRow : OpenClaim := { program := "ytncjabmlkgacdaagreat", sum := "3607e8f1e34660a120d5d33dbf4caa5054a71a0ad281cdea4b7f97bba3f2f5e1", func := "tumblehome/tumblehometop.TopStraightSpots", spec := "topStraightSpots", unfollowed := true, recurses := true, plainKeys := false, apart := false }
def TopStraightSpotsSaid : Prop := topStraightSpotsRow.holds Tryz.pinned (OpenSpec.ofChange topStraightSpotsSpec)

/-- ITS FALSE NEIGHBOUR: 'it returns false'. Refute it at one input. -/
def topStraightSpotsWrong : ChangeSpec := { name := "topStraightSpots", fn := fun _ => fun
  | [d1, d2] => { results := [.lit (.bool false)], args := [d1, d2] }
  | _ => none }
def TopStraightSpotsWrongFalsely : Prop := topStraightSpotsRow.holds Tryz.pinned (OpenSpec.ofChange topStraightSpotsWrong)

/-- 'tumblehometop.TopFullRuns': WHATEVER THE INPUT: true; the input reads as it did. -/
def topFullRunsSpec : ChangeSpec := { name := "topFullRuns", fn := fun _ => fun
  | [d1, d2] => { results := [.lit (.bool true)], args := [d1, d2] }
  | _ => none }
def topFullRunsRow : OpenClaim := { program := "ytncjabmlkgacdaagreat", sum := "3607e8f1e34660a120d5d33dbf4caa5054a71a0ad281cdea4b7f97bba3f2f5e1", func := "tumblehome/tumblehometop.TopFullRuns", spec := "topFullRuns", unfollowed := true, recurses := true, plainKeys := false, apart := false }
def TopFullRunsSaid : Prop := topFullRunsRow.holds Tryz.pinned (OpenSpec.ofChange topFullRunsSpec)

/-- ITS FALSE NEIGHBOUR: 'it returns false'. Refute it at one input. -/
def topFullRunsWrong : ChangeSpec := { name := "topFullRuns", fn := fun _ => fun
  | [d1, d2] => { results := [.lit (.bool false)], args := [d1, d2] }
  | _ => none }
def TopFullRunsWrongFalsely : Prop := topFullRunsRow.holds Tryz.pinned (OpenSpec.ofChange topFullRunsWrong)

/-- 'tumblehometop.TopFrictionRuns': WHATEVER THE INPUT: true; the input reads as it did. -/
def topFrictionRunsSpec : ChangeSpec := { name := "topFrictionRuns", fn := fun _ => fun
  | [d1, d2, d3] => { results := [.lit (.bool true)], args := [d1, d2, d3] }
  | _ => none }
def topFrictionRunsRow : OpenClaim := { program := "ytncjabmlkgacdaagreat", sum := "3607e8f1e34660a120d5d33dbf4caa5054a71a0ad281cdea4b7f97bba3f2f5e1", func := "tumblehome/tumblehometop.TopFrictionRuns", spec := "topFrictionRuns", unfollowed := true, recurses := true, plainKeys := false, apart := false }
def TopFrictionRunsSaid : Prop := topFrictionRunsRow.holds Tryz.pinned (OpenSpec.ofChange topFrictionRunsSpec)

/-- ITS FALSE NEIGHBOUR: 'it returns false'. Refute it at one input. -/
def topFrictionRunsWrong : ChangeSpec := { name := "topFrictionRuns", fn := fun _ => fun
  | [d1, d2, d3] => { results := [.lit (.bool false)], args := [d1, d2, d3] }
  | _ => none }
def TopFrictionRunsWrongFalsely : Prop := topFrictionRunsRow.holds Tryz.pinned (OpenSpec.ofChange topFrictionRunsWrong)

/-- 'tumblehometop.TopHullRuns': WHATEVER THE INPUT: true; the input reads as it did. -/
def topHullRunsSpec : ChangeSpec := { name := "topHullRuns", fn := fun _ => fun
  | [d1, d2] => { results := [.lit (.bool true)], args := [d1, d2] }
  | _ => none }
def topHullRunsRow : OpenClaim := { program := "ytncjabmlkgacdaagreat", sum := "3607e8f1e34660a120d5d33dbf4caa5054a71a0ad281cdea4b7f97bba3f2f5e1", func := "tumblehome/tumblehometop.TopHullRuns", spec := "topHullRuns", unfollowed := true, recurses := true, plainKeys := false, apart := false }
def TopHullRunsSaid : Prop := topHullRunsRow.holds Tryz.pinned (OpenSpec.ofChange topHullRunsSpec)

/-- ITS FALSE NEIGHBOUR: 'it returns false'. Refute it at one input. -/
def topHullRunsWrong : ChangeSpec := { name := "topHullRuns", fn := fun _ => fun
  | [d1, d2] => { results := [.lit (.bool false)], args := [d1, d2] }
  | _ => none }
def TopHullRunsWrongFalsely : Prop := topHullRunsRow.holds Tryz.pinned (OpenSpec.ofChange topHullRunsWrong)

/- THE SECOND FORM. 'bulk': how many values and letters a reading holds, each counted each time it is reached (what is shared counts as often as it is met; a slice's spare places count too). A statement '..UptoSaid' is the law's where the arguments, and the package variables that the reading takes, are together of bulk at most 1048576: NARROWER than '..Said'. Prove '..Said' where nothing that the law and all that it calls make is longer than what came in: it says more and counts as full. Else prove '..UptoSaid'. A law counts once. -/
mutual
def uptoBulk {H : Type} : DataW H → Nat
  | .lit (.string bytes) => bytes.length + 1
  | .lit _ => 1
  | .nil => 1
  | .ptr d => uptoBulk d + 1
  | .slice elems spare => uptoBulkAll elems + uptoBulkAll spare + 1
  | .agg parts => uptoBulkAll parts + 1
  | .iface _ d => uptoBulk d + 1
  | .map entries => uptoBulkEntries entries + 1
  | .held _ => 1
def uptoBulkAll {H : Type} : List (DataW H) → Nat
  | [] => 0
  | d :: r => uptoBulk d + uptoBulkAll r
def uptoBulkEntries {H : Type} : List (Lit × DataW H) → Nat
  | [] => 0
  | x :: r => uptoBulkEntry x + uptoBulkEntries r
def uptoBulkEntry {H : Type} : Lit × DataW H → Nat
  | (.string bytes, d) => bytes.length + uptoBulk d + 1
  | (_, d) => uptoBulk d + 1
 end
def uptoSmall : (H : Type) → List (DataW H) → Bool := fun _ ds => decide (uptoBulkAll ds ≤ 1048576)
def OpenSpec.upto (s : _root_.Go.ChangeSpec) : _root_.Go.OpenSpec := { _root_.Go.OpenSpec.ofChange s with cond := some uptoSmall }

/-- 'tumblehometop.TopStraightSpots', WHERE WHAT IT READS IS OF BULK AT MOST 1048576: true; the input reads as it did. -/
def topStraightSpotsUptoRow : OpenClaim := { program := "ytncjabmlkgacdaagreat", sum := "3607e8f1e34660a120d5d33dbf4caa5054a71a0ad281cdea4b7f97bba3f2f5e1", func := "tumblehome/tumblehometop.TopStraightSpots", spec := "topStraightSpots", unfollowed := true, recurses := true, plainKeys := false, apart := false, narrowed := true }
def TopStraightSpotsUptoSaid : Prop := topStraightSpotsUptoRow.holds Tryz.pinned (OpenSpec.upto topStraightSpotsSpec)

/-- 'tumblehometop.TopFullRuns', WHERE WHAT IT READS IS OF BULK AT MOST 1048576: true; the input reads as it did. -/
def topFullRunsUptoRow : OpenClaim := { program := "ytncjabmlkgacdaagreat", sum := "3607e8f1e34660a120d5d33dbf4caa5054a71a0ad281cdea4b7f97bba3f2f5e1", func := "tumblehome/tumblehometop.TopFullRuns", spec := "topFullRuns", unfollowed := true, recurses := true, plainKeys := false, apart := false, narrowed := true }
def TopFullRunsUptoSaid : Prop := topFullRunsUptoRow.holds Tryz.pinned (OpenSpec.upto topFullRunsSpec)

/-- 'tumblehometop.TopFrictionRuns', WHERE WHAT IT READS IS OF BULK AT MOST 1048576: true; the input reads as it did. -/
def topFrictionRunsUptoRow : OpenClaim := { program := "ytncjabmlkgacdaagreat", sum := "3607e8f1e34660a120d5d33dbf4caa5054a71a0ad281cdea4b7f97bba3f2f5e1", func := "tumblehome/tumblehometop.TopFrictionRuns", spec := "topFrictionRuns", unfollowed := true, recurses := true, plainKeys := false, apart := false, narrowed := true }
def TopFrictionRunsUptoSaid : Prop := topFrictionRunsUptoRow.holds Tryz.pinned (OpenSpec.upto topFrictionRunsSpec)

/-- 'tumblehometop.TopHullRuns', WHERE WHAT IT READS IS OF BULK AT MOST 1048576: true; the input reads as it did. -/
def topHullRunsUptoRow : OpenClaim := { program := "ytncjabmlkgacdaagreat", sum := "3607e8f1e34660a120d5d33dbf4caa5054a71a0ad281cdea4b7f97bba3f2f5e1", func := "tumblehome/tumblehometop.TopHullRuns", spec := "topHullRuns", unfollowed := true, recurses := true, plainKeys := false, apart := false, narrowed := true }
def TopHullRunsUptoSaid : Prop := topHullRunsUptoRow.holds Tryz.pinned (OpenSpec.upto topHullRunsSpec)

end Rows
end Go.Proofs.YtncjabmlkgacdaaGreat
