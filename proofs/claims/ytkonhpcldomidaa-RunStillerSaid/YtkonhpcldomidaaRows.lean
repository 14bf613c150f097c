/-
  No cell of these rows narrows 'for every input' (looked for: loops, veiled, ifaces, maps, wideKeys, modest, calm, conditions, laid).
  DERIVED. THE GIVEN ROWS OF THIS SEAT. 9 by the template 'for every input the law returns true; each argument reads behind the call as it read before'; 0 by the template 'total and deterministic' (their statements: YtkonhpcldomidaaTotals.lean).
  GIVEN WITH THE SEED: the statements are not yours to turn. If you find one false, say at which input.
  Laid BY PROGRAM, IN A SANDBOX (cutbox-rows.mjs): the forced cells as the released guide's own fill.sh prints them over the translation f2c8b1f2b12f2052… (all of the seat's roots in one cut). By AI agents, Wed Nov 11 2026. No macro, syntax, notation, axiom, sorry.
-/
import Derived.Test.YtkonhpcldomidaaChecked
import GoSem.Claim
import GoSem.ClaimJoined
import GoSem.ClaimMapViews
import Derived.JoinedTies
import Derived.KernelRfl
namespace Go.Proofs.Ytkonhpcldomidaa
/- THE CELL 'sum', in the pinned program and in every row, IS THE sha256 OF THE DUMP (.gsa) THAT YtkonhpcldomidaaProg.lean LOADS. Nothing in Lean hashes anything: it is a label: what it is worth is what the hold of that sum in a sandbox is worth. -/
noncomputable def Try.pinned : Pinned := { name := "ytkonhpcldomidaa", sum := "f2c8b1f2b12f2052dda8d145fd58958bda86cac5039c03b804e5bc26a92bdaf7", checked := Try.checked }
namespace Rows
def none {H : Type} : Left H := { results := [], args := [] }

/-- 'tumblehomelaw06.RunTimes': WHATEVER THE INPUT: true; the input reads as it did. -/
def runTimesSpec : ChangeSpec := { name := "runTimes", fn := fun _ => fun
  | [d1, d2, d3, d4, d5] => { results := [.lit (.bool true)], args := [d1, d2, d3, d4, d5] }
  | _ => none }
def runTimesRow : OpenClaim := { program := "ytkonhpcldomidaa", sum := "f2c8b1f2b12f2052dda8d145fd58958bda86cac5039c03b804e5bc26a92bdaf7", func := "tumblehome/tumblehomelaw06.RunTimes", spec := "runTimes", unfollowed := true, recurses := true, plainKeys := false, apart := false }
def RunTimesSaid : Prop := runTimesRow.holds Try.pinned (OpenSpec.ofChange runTimesSpec)

/-- ITS FALSE NEIGHBOUR: 'it returns false'. Refute it at one input. -/
def runTimesWrong : ChangeSpec := { name := "runTimes", fn := fun _ => fun
  | [d1, d2, d3, d4, d5] => { results := [.lit (.bool false)], args := [d1, d2, d3, d4, d5] }
  | _ => none }
def RunTimesWrongFalsely : Prop := runTimesRow.holds Try.pinned (OpenSpec.ofChange runTimesWrong)

/-- 'tumblehomelaw06.RunBests': WHATEVER THE INPUT: true; the input reads as it did. -/
def runBestsSpec : ChangeSpec := { name := "runBests", fn := fun _ => fun
  | [d] => { results := [.lit (.bool true)], args := [d] }
  | _ => none }
def runBestsRow : OpenClaim := { program := "ytkonhpcldomidaa", sum := "f2c8b1f2b12f2052dda8d145fd58958bda86cac5039c03b804e5bc26a92bdaf7", func := "tumblehome/tumblehomelaw06.RunBests", spec := "runBests", unfollowed := true, recurses := true, plainKeys := false, apart := false }
def RunBestsSaid : Prop := runBestsRow.holds Try.pinned (OpenSpec.ofChange runBestsSpec)

/-- ITS FALSE NEIGHBOUR: 'it returns false'. Refute it at one input. -/
def runBestsWrong : ChangeSpec := { name := "runBests", fn := fun _ => fun
  | [d] => { results := [.lit (.bool false)], args := [d] }
  | _ => none }
def RunBestsWrongFalsely : Prop := runBestsRow.holds Try.pinned (OpenSpec.ofChange runBestsWrong)

/-- 'tumblehomelaw06.RunTables': WHATEVER THE INPUT: true; the input reads as it did. -/
def runTablesSpec : ChangeSpec := { name := "runTables", fn := fun _ => fun
  | [d1, d2] => { results := [.lit (.bool true)], args := [d1, d2] }
  | _ => none }
def runTablesRow : OpenClaim := { program := "ytkonhpcldomidaa", sum := "f2c8b1f2b12f2052dda8d145fd58958bda86cac5039c03b804e5bc26a92bdaf7", func := "tumblehome/tumblehomelaw06.RunTables", spec := "runTables", unfollowed := true, recurses := true, plainKeys := false, apart := false }
def RunTablesSaid : Prop := runTablesRow.holds Try.pinned (OpenSpec.ofChange runTablesSpec)

/-- ITS FALSE NEIGHBOUR: 'it returns false'. Refute it at one input. -/
def runTablesWrong : ChangeSpec := { name := "runTables", fn := fun _ => fun
  | [d1, d2] => { results := [.lit (.bool false)], args := [d1, d2] }
  | _ => none }
def RunTablesWrongFalsely : Prop := runTablesRow.holds Try.pinned (OpenSpec.ofChange runTablesWrong)

/-- 'tumblehomelaw06.RunStill': WHATEVER THE INPUT: true; the input reads as it did. -/
def runStillSpec : ChangeSpec := { name := "runStill", fn := fun _ => fun
  | [d1, d2, d3, d4] => { results := [.lit (.bool true)], args := [d1, d2, d3, d4] }
  | _ => none }
def runStillRow : OpenClaim := { program := "ytkonhpcldomidaa", sum := "f2c8b1f2b12f2052dda8d145fd58958bda86cac5039c03b804e5bc26a92bdaf7", func := "tumblehome/tumblehomelaw06.RunStill", spec := "runStill", unfollowed := true, recurses := true, plainKeys := false, apart := false }
def RunStillSaid : Prop := runStillRow.holds Try.pinned (OpenSpec.ofChange runStillSpec)

/-- ITS FALSE NEIGHBOUR: 'it returns false'. Refute it at one input. -/
def runStillWrong : ChangeSpec := { name := "runStill", fn := fun _ => fun
  | [d1, d2, d3, d4] => { results := [.lit (.bool false)], args := [d1, d2, d3, d4] }
  | _ => none }
def RunStillWrongFalsely : Prop := runStillRow.holds Try.pinned (OpenSpec.ofChange runStillWrong)

/-- 'tumblehomelaw06.RunMost': WHATEVER THE INPUT: true; the input reads as it did. -/
def runMostSpec : ChangeSpec := { name := "runMost", fn := fun _ => fun
  | [d1, d2, d3] => { results := [.lit (.bool true)], args := [d1, d2, d3] }
  | _ => none }
def runMostRow : OpenClaim := { program := "ytkonhpcldomidaa", sum := "f2c8b1f2b12f2052dda8d145fd58958bda86cac5039c03b804e5bc26a92bdaf7", func := "tumblehome/tumblehomelaw06.RunMost", spec := "runMost", unfollowed := true, recurses := true, plainKeys := false, apart := false }
def RunMostSaid : Prop := runMostRow.holds Try.pinned (OpenSpec.ofChange runMostSpec)

/-- ITS FALSE NEIGHBOUR: 'it returns false'. Refute it at one input. -/
def runMostWrong : ChangeSpec := { name := "runMost", fn := fun _ => fun
  | [d1, d2, d3] => { results := [.lit (.bool false)], args := [d1, d2, d3] }
  | _ => none }
def RunMostWrongFalsely : Prop := runMostRow.holds Try.pinned (OpenSpec.ofChange runMostWrong)

/-- 'tumblehomelaw06.RunEarlier': WHATEVER THE INPUT: true; the input reads as it did. -/
def runEarlierSpec : ChangeSpec := { name := "runEarlier", fn := fun _ => fun
  | [d1, d2, d3] => { results := [.lit (.bool true)], args := [d1, d2, d3] }
  | _ => none }
def runEarlierRow : OpenClaim := { program := "ytkonhpcldomidaa", sum := "f2c8b1f2b12f2052dda8d145fd58958bda86cac5039c03b804e5bc26a92bdaf7", func := "tumblehome/tumblehomelaw06.RunEarlier", spec := "runEarlier", unfollowed := true, recurses := true, plainKeys := false, apart := false }
def RunEarlierSaid : Prop := runEarlierRow.holds Try.pinned (OpenSpec.ofChange runEarlierSpec)

/-- ITS FALSE NEIGHBOUR: 'it returns false'. Refute it at one input. -/
def runEarlierWrong : ChangeSpec := { name := "runEarlier", fn := fun _ => fun
  | [d1, d2, d3] => { results := [.lit (.bool false)], args := [d1, d2, d3] }
  | _ => none }
def RunEarlierWrongFalsely : Prop := runEarlierRow.holds Try.pinned (OpenSpec.ofChange runEarlierWrong)

/-- 'tumblehomelaw06.RunStiller': WHATEVER THE INPUT: true; the input reads as it did. -/
def runStillerSpec : ChangeSpec := { name := "runStiller", fn := fun _ => fun
  | [d1, d2, d3, d4] => { results := [.lit (.bool true)], args := [d1, d2, d3, d4] }
  | _ => none }
def runStillerRow : OpenClaim := { program := "ytkonhpcldomidaa", sum := "f2c8b1f2b12f2052dda8d145fd58958bda86cac5039c03b804e5bc26a92bdaf7", func := "tumblehome/tumblehomelaw06.RunStiller", spec := "runStiller", unfollowed := true, recurses := true, plainKeys := false, apart := false }
def RunStillerSaid : Prop := runStillerRow.holds Try.pinned (OpenSpec.ofChange runStillerSpec)

/-- ITS FALSE NEIGHBOUR: 'it returns false'. Refute it at one input. -/
def runStillerWrong : ChangeSpec := { name := "runStiller", fn := fun _ => fun
  | [d1, d2, d3, d4] => { results := [.lit (.bool false)], args := [d1, d2, d3, d4] }
  | _ => none }
def RunStillerWrongFalsely : Prop := runStillerRow.holds Try.pinned (OpenSpec.ofChange runStillerWrong)

/-- 'tumblehomelaw06.RunWaits': WHATEVER THE INPUT: true; the input reads as it did. -/
def runWaitsSpec : ChangeSpec := { name := "runWaits", fn := fun _ => fun
  | [d1, d2, d3, d4, d5, d6] => { results := [.lit (.bool true)], args := [d1, d2, d3, d4, d5, d6] }
  | _ => none }
def runWaitsRow : OpenClaim := { program := "ytkonhpcldomidaa", sum := "f2c8b1f2b12f2052dda8d145fd58958bda86cac5039c03b804e5bc26a92bdaf7", func := "tumblehome/tumblehomelaw06.RunWaits", spec := "runWaits", unfollowed := true, recurses := true, plainKeys := false, apart := false }
def RunWaitsSaid : Prop := runWaitsRow.holds Try.pinned (OpenSpec.ofChange runWaitsSpec)

/-- ITS FALSE NEIGHBOUR: 'it returns false'. Refute it at one input. -/
def runWaitsWrong : ChangeSpec := { name := "runWaits", fn := fun _ => fun
  | [d1, d2, d3, d4, d5, d6] => { results := [.lit (.bool false)], args := [d1, d2, d3, d4, d5, d6] }
  | _ => none }
def RunWaitsWrongFalsely : Prop := runWaitsRow.holds Try.pinned (OpenSpec.ofChange runWaitsWrong)

/-- 'tumblehomelaw06.RunKnown': WHATEVER THE INPUT: true; the input reads as it did. -/
def runKnownSpec : ChangeSpec := { name := "runKnown", fn := fun _ => fun
  | [] => { results := [.lit (.bool true)], args := [] }
  | _ => none }
def runKnownRow : OpenClaim := { program := "ytkonhpcldomidaa", sum := "f2c8b1f2b12f2052dda8d145fd58958bda86cac5039c03b804e5bc26a92bdaf7", func := "tumblehome/tumblehomelaw06.RunKnown", spec := "runKnown", unfollowed := true, recurses := true, plainKeys := false, apart := false }
def RunKnownSaid : Prop := runKnownRow.holds Try.pinned (OpenSpec.ofChange runKnownSpec)

/-- ITS FALSE NEIGHBOUR: 'it returns false'. Refute it at one input. -/
def runKnownWrong : ChangeSpec := { name := "runKnown", fn := fun _ => fun
  | [] => { results := [.lit (.bool false)], args := [] }
  | _ => none }
def RunKnownWrongFalsely : Prop := runKnownRow.holds Try.pinned (OpenSpec.ofChange runKnownWrong)

/- THE SECOND FORM. 'bulk': how many values and letters a reading holds, each counted each time it is reached (what is shared counts as often as it is met; a slice's spare places count too). A statement '..UptoSaid' is the law's where the arguments, and the package variables that the reading takes, are together of bulk at most 1048576: NARROWER than '..Said'. Prove '..Said' where nothing that the law and all that it calls make is longer than what came in: it says more and counts as full. Else prove '..UptoSaid'. A law counts once. -/
mutual
def uptoBulk {H : Type} : DataW H → Nat
  | .lit (.string bytes) => bytes.length + 1
  | .lit _ => 1
  | .nil => 1
  | .ptr d => uptoBulk d + 1
  | .slice elems spare => uptoBulkAll elems + uptoBulkAll spare + 1
  | .agg parts => uptoBulkAll parts + 1
  | .iface _ d => uptoBulk d + 1
  | .map entries => uptoBulkEntries entries + 1
  | .held _ => 1
def uptoBulkAll {H : Type} : List (DataW H) → Nat
  | [] => 0
  | d :: r => uptoBulk d + uptoBulkAll r
def uptoBulkEntries {H : Type} : List (Lit × DataW H) → Nat
  | [] => 0
  | x :: r => uptoBulkEntry x + uptoBulkEntries r
def uptoBulkEntry {H : Type} : Lit × DataW H → Nat
  | (.string bytes, d) => bytes.length + uptoBulk d + 1
  | (_, d) => uptoBulk d + 1
 end
def uptoSmall : (H : Type) → List (DataW H) → Bool := fun _ ds => decide (uptoBulkAll ds ≤ 1048576)
def OpenSpec.upto (s : _root_.Go.ChangeSpec) : _root_.Go.OpenSpec := { _root_.Go.OpenSpec.ofChange s with cond := some uptoSmall }

/-- 'tumblehomelaw06.RunTimes', WHERE WHAT IT READS IS OF BULK AT MOST 1048576: true; the input reads as it did. -/
def runTimesUptoRow : OpenClaim := { program := "ytkonhpcldomidaa", sum := "f2c8b1f2b12f2052dda8d145fd58958bda86cac5039c03b804e5bc26a92bdaf7", func := "tumblehome/tumblehomelaw06.RunTimes", spec := "runTimes", unfollowed := true, recurses := true, plainKeys := false, apart := false, narrowed := true }
def RunTimesUptoSaid : Prop := runTimesUptoRow.holds Try.pinned (OpenSpec.upto runTimesSpec)

/-- 'tumblehomelaw06.RunBests', WHERE WHAT IT READS IS OF BULK AT MOST 1048576: true; the input reads as it did. -/
def runBestsUptoRow : OpenClaim := { program := "ytkonhpcldomidaa", sum := "f2c8b1f2b12f2052dda8d145fd58958bda86cac5039c03b804e5bc26a92bdaf7", func := "tumblehome/tumblehomelaw06.RunBests", spec := "runBests", unfollowed := true, recurses := true, plainKeys := false, apart := false, narrowed := true }
def RunBestsUptoSaid : Prop := runBestsUptoRow.holds Try.pinned (OpenSpec.upto runBestsSpec)

/-- 'tumblehomelaw06.RunTables', WHERE WHAT IT READS IS OF BULK AT MOST 1048576: true; the input reads as it did. -/
def runTablesUptoRow : OpenClaim := { program := "ytkonhpcldomidaa", sum := "f2c8b1f2b12f2052dda8d145fd58958bda86cac5039c03b804e5bc26a92bdaf7", func := "tumblehome/tumblehomelaw06.RunTables", spec := "runTables", unfollowed := true, recurses := true, plainKeys := false, apart := false, narrowed := true }
def RunTablesUptoSaid : Prop := runTablesUptoRow.holds Try.pinned (OpenSpec.upto runTablesSpec)

/-- 'tumblehomelaw06.RunStill', WHERE WHAT IT READS IS OF BULK AT MOST 1048576: true; the input reads as it did. -/
def runStillUptoRow : OpenClaim := { program := "ytkonhpcldomidaa", sum := "f2c8b1f2b12f2052dda8d145fd58958bda86cac5039c03b804e5bc26a92bdaf7", func := "tumblehome/tumblehomelaw06.RunStill", spec := "runStill", unfollowed := true, recurses := true, plainKeys := false, apart := false, narrowed := true }
def RunStillUptoSaid : Prop := runStillUptoRow.holds Try.pinned (OpenSpec.upto runStillSpec)

/-- 'tumblehomelaw06.RunMost', WHERE WHAT IT READS IS OF BULK AT MOST 1048576: true; the input reads as it did. -/
def runMostUptoRow : OpenClaim := { program := "ytkonhpcldomidaa", sum := "f2c8b1f2b12f2052dda8d145fd58958bda86cac5039c03b804e5bc26a92bdaf7", func := "tumblehome/tumblehomelaw06.RunMost", spec := "runMost", unfollowed := true, recurses := true, plainKeys := false, apart := false, narrowed := true }
def RunMostUptoSaid : Prop := runMostUptoRow.holds Try.pinned (OpenSpec.upto runMostSpec)

/-- 'tumblehomelaw06.RunEarlier', WHERE WHAT IT READS IS OF BULK AT MOST 1048576: true; the input reads as it did. -/
def runEarlierUptoRow : OpenClaim := { program := "ytkonhpcldomidaa", sum := "f2c8b1f2b12f2052dda8d145fd58958bda86cac5039c03b804e5bc26a92bdaf7", func := "tumblehome/tumblehomelaw06.RunEarlier", spec := "runEarlier", unfollowed := true, recurses := true, plainKeys := false, apart := false, narrowed := true }
def RunEarlierUptoSaid : Prop := runEarlierUptoRow.holds Try.pinned (OpenSpec.upto runEarlierSpec)

/-- 'tumblehomelaw06.RunStiller', WHERE WHAT IT READS IS OF BULK AT MOST 1048576: true; the input reads as it did. -/
def runStillerUptoRow : OpenClaim := { program := "ytkonhpcldomidaa", sum := "f2c8b1f2b12f2052dda8d145fd58958bda86cac5039c03b804e5bc26a92bdaf7", func := "tumblehome/tumblehomelaw06.RunStiller", spec := "runStiller", unfollowed := true, recurses := true, plainKeys := false, apart := false, narrowed := true }
def RunStillerUptoSaid : Prop := runStillerUptoRow.holds Try.pinned (OpenSpec.upto runStillerSpec)

/-- 'tumblehomelaw06.RunWaits', WHERE WHAT IT READS IS OF BULK AT MOST 1048576: true; the input reads as it did. -/
def runWaitsUptoRow : OpenClaim := { program := "ytkonhpcldomidaa", sum := "f2c8b1f2b12f2052dda8d145fd58958bda86cac5039c03b804e5bc26a92bdaf7", func := "tumblehome/tumblehomelaw06.RunWaits", spec := "runWaits", unfollowed := true, recurses := true, plainKeys := false, apart := false, narrowed := true }
def RunWaitsUptoSaid : Prop := runWaitsUptoRow.holds Try.pinned (OpenSpec.upto runWaitsSpec)

/-- 'tumblehomelaw06.RunKnown', WHERE WHAT IT READS IS OF BULK AT MOST 1048576: true; the input reads as it did. -/
def runKnownUptoRow : OpenClaim := { program := "ytkonhpcldomidaa", sum := "f2c8b1f2b12f2052dda8d145fd58958bda86cac5039c03b804e5bc26a92bdaf7", func := "tumblehome/tumblehomelaw06.RunKnown", spec := "runKnown", unfollowed := true, recurses := true, plainKeys := false, apart := false, narrowed := true }
def RunKnownUptoSaid : Prop := runKnownUptoRow.holds Try.pinned (OpenSpec.upto runKnownSpec)

end Rows
end Go.Proofs.Ytkonhpcldomidaa
