/-
  No cell of these rows narrows 'for every input' (looked for: loops, veiled, ifaces, maps, wideKeys, modest, calm, conditions, laid).
  DERIVED. THE GIVEN ROWS OF THIS SEAT. 12 by the template 'for every input the law returns true; each argument reads behind the call as it read before'; 0 by the template 'total and deterministic' (their statements: YtingkbglkaojdaaTotals.lean).
  GIVEN WITH THE SEED: the statements are not yours to turn. If you find one false, say at which input.
  Laid BY PROGRAM, IN A SANDBOX (cutbox-rows.mjs): the forced cells as the released guide's own fill.sh prints them over the translation 2ba5df15543eb9a7… (all of the seat's roots in one cut). By AI agents, Wed Nov 11 2026. No macro, syntax, notation, axiom, sorry.
-/
import Derived.Test.YtingkbglkaojdaaChecked
import GoSem.Claim
import GoSem.ClaimJoined
import GoSem.ClaimMapViews
import Derived.JoinedTies
import Derived.KernelRfl
namespace Go.Proofs.Ytingkbglkaojdaa
/- THE CELL 'sum', in the pinned program and in every row, IS THE sha256 OF THE DUMP (.gsa) THAT YtingkbglkaojdaaProg.lean LOADS. Nothing in Lean hashes anything: it is a label: what it is worth is what the hold of that sum in a sandbox is worth. -/
noncomputable def Try.pinned : Pinned := { name := "ytingkbglkaojdaa", sum := "2ba5df15543eb9a7e0e1ed81d90b80d367f15f486fd9d281d19b04be5e602fd2", checked := Try.checked }
namespace Rows
def none {H : Type} : Left H := { results := [], args := [] }

/-- 'tumblehomelaw05.WaveShort': WHATEVER THE INPUT: true; the input reads as it did. -/
def waveShortSpec : ChangeSpec := { name := "waveShort", fn := fun _ => fun
  | [d] => { results := [.lit (.bool true)], args := [d] }
  | _ => none }
def waveShortRow : OpenClaim := { program := "ytingkbglkaojdaa", sum := "2ba5df15543eb9a7e0e1ed81d90b80d367f15f486fd9d281d19b04be5e602fd2", func := "tumblehome/tumblehomelaw05.WaveShort", spec := "waveShort", unfollowed := true, recurses := true, plainKeys := false, apart := false }
def WaveShortSaid : Prop := waveShortRow.holds Try.pinned (OpenSpec.ofChange waveShortSpec)

/-- ITS FALSE NEIGHBOUR: 'it returns false'. Refute it at one input. -/
def waveShortWrong : ChangeSpec := { name := "waveShort", fn := fun _ => fun
  | [d] => { results := [.lit (.bool false)], args := [d] }
  | _ => none }
def WaveShortWrongFalsely : Prop := waveShortRow.holds Try.pinned (OpenSpec.ofChange waveShortWrong)

/-- 'tumblehomelaw05.WavePeriods': WHATEVER THE INPUT: true; the input reads as it did. -/
def wavePeriodsSpec : ChangeSpec := { name := "wavePeriods", fn := fun _ => fun
  | [d1, d2, d3, d4] => { results := [.lit (.bool true)], args := [d1, d2, d3, d4] }
  | _ => none }
def wavePeriodsRow : OpenClaim := { program := "ytingkbglkaojdaa", sum := "2ba5df15543eb9a7e0e1ed81d90b80d367f15f486fd9d281d19b04be5e602fd2", func := "tumblehome/tumblehomelaw05.WavePeriods", spec := "wavePeriods", unfollowed := true, recurses := true, plainKeys := false, apart := false }
def WavePeriodsSaid : Prop := wavePeriodsRow.holds Try.pinned (OpenSpec.ofChange wavePeriodsSpec)

/-- ITS FALSE NEIGHBOUR: 'it returns false'. Refute it at one input. -/
def wavePeriodsWrong : ChangeSpec := { name := "wavePeriods", fn := fun _ => fun
  | [d1, d2, d3, d4] => { results := [.lit (.bool false)], args := [d1, d2, d3, d4] }
  | _ => none }
def WavePeriodsWrongFalsely : Prop := wavePeriodsRow.holds Try.pinned (OpenSpec.ofChange wavePeriodsWrong)

/-- 'tumblehomelaw05.WaveProfile': WHATEVER THE INPUT: true; the input reads as it did. -/
def waveProfileSpec : ChangeSpec := { name := "waveProfile", fn := fun _ => fun
  | [d1, d2] => { results := [.lit (.bool true)], args := [d1, d2] }
  | _ => none }
def waveProfileRow : OpenClaim := { program := "ytingkbglkaojdaa", sum := "2ba5df15543eb9a7e0e1ed81d90b80d367f15f486fd9d281d19b04be5e602fd2", func := "tumblehome/tumblehomelaw05.WaveProfile", spec := "waveProfile", unfollowed := true, recurses := true, plainKeys := false, apart := false }
def WaveProfileSaid : Prop := waveProfileRow.holds Try.pinned (OpenSpec.ofChange waveProfileSpec)

/-- ITS FALSE NEIGHBOUR: 'it returns false'. Refute it at one input. -/
def waveProfileWrong : ChangeSpec := { name := "waveProfile", fn := fun _ => fun
  | [d1, d2] => { results := [.lit (.bool false)], args := [d1, d2] }
  | _ => none }
def WaveProfileWrongFalsely : Prop := waveProfileRow.holds Try.pinned (OpenSpec.ofChange waveProfileWrong)

/-- 'tumblehomelaw05.WaveTogether': WHATEVER THE INPUT: true; the input reads as it did. -/
def waveTogetherSpec : ChangeSpec := { name := "waveTogether", fn := fun _ => fun
  | [d1, d2] => { results := [.lit (.bool true)], args := [d1, d2] }
  | _ => none }
def waveTogetherRow : OpenClaim := { program := "ytingkbglkaojdaa", sum := "2ba5df15543eb9a7e0e1ed81d90b80d367f15f486fd9d281d19b04be5e602fd2", func := "tumblehome/tumblehomelaw05.WaveTogether", spec := "waveTogether", unfollowed := true, recurses := true, plainKeys := false, apart := false }
def WaveTogetherSaid : Prop := waveTogetherRow.holds Try.pinned (OpenSpec.ofChange waveTogetherSpec)

/-- ITS FALSE NEIGHBOUR: 'it returns false'. Refute it at one input. -/
def waveTogetherWrong : ChangeSpec := { name := "waveTogether", fn := fun _ => fun
  | [d1, d2] => { results := [.lit (.bool false)], args := [d1, d2] }
  | _ => none }
def WaveTogetherWrongFalsely : Prop := waveTogetherRow.holds Try.pinned (OpenSpec.ofChange waveTogetherWrong)

/-- 'tumblehomelaw05.WaveFlat': WHATEVER THE INPUT: true; the input reads as it did. -/
def waveFlatSpec : ChangeSpec := { name := "waveFlat", fn := fun _ => fun
  | [d1, d2, d3] => { results := [.lit (.bool true)], args := [d1, d2, d3] }
  | _ => none }
def waveFlatRow : OpenClaim := { program := "ytingkbglkaojdaa", sum := "2ba5df15543eb9a7e0e1ed81d90b80d367f15f486fd9d281d19b04be5e602fd2", func := "tumblehome/tumblehomelaw05.WaveFlat", spec := "waveFlat", unfollowed := true, recurses := true, plainKeys := false, apart := false }
def WaveFlatSaid : Prop := waveFlatRow.holds Try.pinned (OpenSpec.ofChange waveFlatSpec)

/-- ITS FALSE NEIGHBOUR: 'it returns false'. Refute it at one input. -/
def waveFlatWrong : ChangeSpec := { name := "waveFlat", fn := fun _ => fun
  | [d1, d2, d3] => { results := [.lit (.bool false)], args := [d1, d2, d3] }
  | _ => none }
def WaveFlatWrongFalsely : Prop := waveFlatRow.holds Try.pinned (OpenSpec.ofChange waveFlatWrong)

/-- 'tumblehomelaw05.WaveSpectrum': WHATEVER THE INPUT: true; the input reads as it did. -/
def waveSpectrumSpec : ChangeSpec := { name := "waveSpectrum", fn := fun _ => fun
  | [d1, d2] => { results := [.lit (.bool true)], args := [d1, d2] }
  | _ => none }
def waveSpectrumRow : OpenClaim := { program := "ytingkbglkaojdaa", sum := "2ba5df15543eb9a7e0e1ed81d90b80d367f15f486fd9d281d19b04be5e602fd2", func := "tumblehome/tumblehomelaw05.WaveSpectrum", spec := "waveSpectrum", unfollowed := true, recurses := true, plainKeys := false, apart := false }
def WaveSpectrumSaid : Prop := waveSpectrumRow.holds Try.pinned (OpenSpec.ofChange waveSpectrumSpec)

/-- ITS FALSE NEIGHBOUR: 'it returns false'. Refute it at one input. -/
def waveSpectrumWrong : ChangeSpec := { name := "waveSpectrum", fn := fun _ => fun
  | [d1, d2] => { results := [.lit (.bool false)], args := [d1, d2] }
  | _ => none }
def WaveSpectrumWrongFalsely : Prop := waveSpectrumRow.holds Try.pinned (OpenSpec.ofChange waveSpectrumWrong)

/-- 'tumblehomelaw05.WavePeriod': WHATEVER THE INPUT: true; the input reads as it did. -/
def wavePeriodSpec : ChangeSpec := { name := "wavePeriod", fn := fun _ => fun
  | [d1, d2, d3] => { results := [.lit (.bool true)], args := [d1, d2, d3] }
  | _ => none }
def wavePeriodRow : OpenClaim := { program := "ytingkbglkaojdaa", sum := "2ba5df15543eb9a7e0e1ed81d90b80d367f15f486fd9d281d19b04be5e602fd2", func := "tumblehome/tumblehomelaw05.WavePeriod", spec := "wavePeriod", unfollowed := true, recurses := true, plainKeys := false, apart := false }
def WavePeriodSaid : Prop := wavePeriodRow.holds Try.pinned (OpenSpec.ofChange wavePeriodSpec)

/-- ITS FALSE NEIGHBOUR: 'it returns false'. Refute it at one input. -/
def wavePeriodWrong : ChangeSpec := { name := "wavePeriod", fn := fun _ => fun
  | [d1, d2, d3] => { results := [.lit (.bool false)], args := [d1, d2, d3] }
  | _ => none }
def WavePeriodWrongFalsely : Prop := wavePeriodRow.holds Try.pinned (OpenSpec.ofChange wavePeriodWrong)

/-- 'tumblehomelaw05.WaveRuns': WHATEVER THE INPUT: true; the input reads as it did. -/
def waveRunsSpec : ChangeSpec := { name := "waveRuns", fn := fun _ => fun
  | [d1, d2, d3, d4] => { results := [.lit (.bool true)], args := [d1, d2, d3, d4] }
  | _ => none }
def waveRunsRow : OpenClaim := { program := "ytingkbglkaojdaa", sum := "2ba5df15543eb9a7e0e1ed81d90b80d367f15f486fd9d281d19b04be5e602fd2", func := "tumblehome/tumblehomelaw05.WaveRuns", spec := "waveRuns", unfollowed := true, recurses := true, plainKeys := false, apart := false }
def WaveRunsSaid : Prop := waveRunsRow.holds Try.pinned (OpenSpec.ofChange waveRunsSpec)

/-- ITS FALSE NEIGHBOUR: 'it returns false'. Refute it at one input. -/
def waveRunsWrong : ChangeSpec := { name := "waveRuns", fn := fun _ => fun
  | [d1, d2, d3, d4] => { results := [.lit (.bool false)], args := [d1, d2, d3, d4] }
  | _ => none }
def WaveRunsWrongFalsely : Prop := waveRunsRow.holds Try.pinned (OpenSpec.ofChange waveRunsWrong)

/-- 'tumblehomelaw05.WaveOnly': WHATEVER THE INPUT: true; the input reads as it did. -/
def waveOnlySpec : ChangeSpec := { name := "waveOnly", fn := fun _ => fun
  | [d1, d2, d3, d4] => { results := [.lit (.bool true)], args := [d1, d2, d3, d4] }
  | _ => none }
def waveOnlyRow : OpenClaim := { program := "ytingkbglkaojdaa", sum := "2ba5df15543eb9a7e0e1ed81d90b80d367f15f486fd9d281d19b04be5e602fd2", func := "tumblehome/tumblehomelaw05.WaveOnly", spec := "waveOnly", unfollowed := true, recurses := true, plainKeys := false, apart := false }
def WaveOnlySaid : Prop := waveOnlyRow.holds Try.pinned (OpenSpec.ofChange waveOnlySpec)

/-- ITS FALSE NEIGHBOUR: 'it returns false'. Refute it at one input. -/
def waveOnlyWrong : ChangeSpec := { name := "waveOnly", fn := fun _ => fun
  | [d1, d2, d3, d4] => { results := [.lit (.bool false)], args := [d1, d2, d3, d4] }
  | _ => none }
def WaveOnlyWrongFalsely : Prop := waveOnlyRow.holds Try.pinned (OpenSpec.ofChange waveOnlyWrong)

/-- 'tumblehomelaw05.WaveProofs': WHATEVER THE INPUT: true; the input reads as it did. -/
def waveProofsSpec : ChangeSpec := { name := "waveProofs", fn := fun _ => fun
  | [d1, d2] => { results := [.lit (.bool true)], args := [d1, d2] }
  | _ => none }
def waveProofsRow : OpenClaim := { program := "ytingkbglkaojdaa", sum := "2ba5df15543eb9a7e0e1ed81d90b80d367f15f486fd9d281d19b04be5e602fd2", func := "tumblehome/tumblehomelaw05.WaveProofs", spec := "waveProofs", unfollowed := true, recurses := true, plainKeys := false, apart := false }
def WaveProofsSaid : Prop := waveProofsRow.holds Try.pinned (OpenSpec.ofChange waveProofsSpec)

/-- ITS FALSE NEIGHBOUR: 'it returns false'. Refute it at one input. -/
def waveProofsWrong : ChangeSpec := { name := "waveProofs", fn := fun _ => fun
  | [d1, d2] => { results := [.lit (.bool false)], args := [d1, d2] }
  | _ => none }
def WaveProofsWrongFalsely : Prop := waveProofsRow.holds Try.pinned (OpenSpec.ofChange waveProofsWrong)

/-- 'tumblehomelaw05.WaveKnown': WHATEVER THE INPUT: true; the input reads as it did. -/
def waveKnownSpec : ChangeSpec := { name := "waveKnown", fn := fun _ => fun
  | [] => { results := [.lit (.bool true)], args := [] }
  | _ => none }
def waveKnownRow : OpenClaim := { program := "ytingkbglkaojdaa", sum := "2ba5df15543eb9a7e0e1ed81d90b80d367f15f486fd9d281d19b04be5e602fd2", func := "tumblehome/tumblehomelaw05.WaveKnown", spec := "waveKnown", unfollowed := true, recurses := true, plainKeys := false, apart := false }
def WaveKnownSaid : Prop := waveKnownRow.holds Try.pinned (OpenSpec.ofChange waveKnownSpec)

/-- ITS FALSE NEIGHBOUR: 'it returns false'. Refute it at one input. -/
def waveKnownWrong : ChangeSpec := { name := "waveKnown", fn := fun _ => fun
  | [] => { results := [.lit (.bool false)], args := [] }
  | _ => none }
def WaveKnownWrongFalsely : Prop := waveKnownRow.holds Try.pinned (OpenSpec.ofChange waveKnownWrong)

/-- 'tumblehomelaw05.WaveShortest': WHATEVER THE INPUT: true; the input reads as it did. -/
def waveShortestSpec : ChangeSpec := { name := "waveShortest", fn := fun _ => fun
  | [d1, d2, d3] => { results := [.lit (.bool true)], args := [d1, d2, d3] }
  | _ => none }
def waveShortestRow : OpenClaim := { program := "ytingkbglkaojdaa", sum := "2ba5df15543eb9a7e0e1ed81d90b80d367f15f486fd9d281d19b04be5e602fd2", func := "tumblehome/tumblehomelaw05.WaveShortest", spec := "waveShortest", unfollowed := true, recurses := true, plainKeys := false, apart := false }
def WaveShortestSaid : Prop := waveShortestRow.holds Try.pinned (OpenSpec.ofChange waveShortestSpec)

/-- ITS FALSE NEIGHBOUR: 'it returns false'. Refute it at one input. -/
def waveShortestWrong : ChangeSpec := { name := "waveShortest", fn := fun _ => fun
  | [d1, d2, d3] => { results := [.lit (.bool false)], args := [d1, d2, d3] }
  | _ => none }
def WaveShortestWrongFalsely : Prop := waveShortestRow.holds Try.pinned (OpenSpec.ofChange waveShortestWrong)

/- THE SECOND FORM. 'bulk': how many values and letters a reading holds, each counted each time it is reached (what is shared counts as often as it is met; a slice's spare places count too). A statement '..UptoSaid' is the law's where the arguments, and the package variables that the reading takes, are together of bulk at most 1048576: NARROWER than '..Said'. Prove '..Said' where nothing that the law and all that it calls make is longer than what came in: it says more and counts as full. Else prove '..UptoSaid'. A law counts once. -/
mutual
def uptoBulk {H : Type} : DataW H → Nat
  | .lit (.string bytes) => bytes.length + 1
  | .lit _ => 1
  | .nil => 1
  | .ptr d => uptoBulk d + 1
  | .slice elems spare => uptoBulkAll elems + uptoBulkAll spare + 1
  | .agg parts => uptoBulkAll parts + 1
  | .iface _ d => uptoBulk d + 1
  | .map entries => uptoBulkEntries entries + 1
  | .held _ => 1
def uptoBulkAll {H : Type} : List (DataW H) → Nat
  | [] => 0
  | d :: r => uptoBulk d + uptoBulkAll r
def uptoBulkEntries {H : Type} : List (Lit × DataW H) → Nat
  | [] => 0
  | x :: r => uptoBulkEntry x + uptoBulkEntries r
def uptoBulkEntry {H : Type} : Lit × DataW H → Nat
  | (.string bytes, d) => bytes.length + uptoBulk d + 1
  | (_, d) => uptoBulk d + 1
 end
def uptoSmall : (H : Type) → List (DataW H) → Bool := fun _ ds => decide (uptoBulkAll ds ≤ 1048576)
def OpenSpec.upto (s : _root_.Go.ChangeSpec) : _root_.Go.OpenSpec := { _root_.Go.OpenSpec.ofChange s with cond := some uptoSmall }

/-- 'tumblehomelaw05.WaveShort', WHERE WHAT IT READS IS OF BULK AT MOST 1048576: true; the input reads as it did. -/
def waveShortUptoRow : OpenClaim := { program := "ytingkbglkaojdaa", sum := "2ba5df15543eb9a7e0e1ed81d90b80d367f15f486fd9d281d19b04be5e602fd2", func := "tumblehome/tumblehomelaw05.WaveShort", spec := "waveShort", unfollowed := true, recurses := true, plainKeys := false, apart := false, narrowed := true }
def WaveShortUptoSaid : Prop := waveShortUptoRow.holds Try.pinned (OpenSpec.upto waveShortSpec)

/-- 'tumblehomelaw05.WavePeriods', WHERE WHAT IT READS IS OF BULK AT MOST 1048576: true; the input reads as it did. -/
def wavePeriodsUptoRow : OpenClaim := { program := "ytingkbglkaojdaa", sum := "2ba5df15543eb9a7e0e1ed81d90b80d367f15f486fd9d281d19b04be5e602fd2", func := "tumblehome/tumblehomelaw05.WavePeriods", spec := "wavePeriods", unfollowed := true, recurses := true, plainKeys := false, apart := false, narrowed := true }
def WavePeriodsUptoSaid : Prop := wavePeriodsUptoRow.holds Try.pinned (OpenSpec.upto wavePeriodsSpec)

/-- 'tumblehomelaw05.WaveProfile', WHERE WHAT IT READS IS OF BULK AT MOST 1048576: true; the input reads as it did. -/
def waveProfileUptoRow : OpenClaim := { program := "ytingkbglkaojdaa", sum := "2ba5df15543eb9a7e0e1ed81d90b80d367f15f486fd9d281d19b04be5e602fd2", func := "tumblehome/tumblehomelaw05.WaveProfile", spec := "waveProfile", unfollowed := true, recurses := true, plainKeys := false, apart := false, narrowed := true }
def WaveProfileUptoSaid : Prop := waveProfileUptoRow.holds Try.pinned (OpenSpec.upto waveProfileSpec)

/-- 'tumblehomelaw05.WaveTogether', WHERE WHAT IT READS IS OF BULK AT MOST 1048576: true; the input reads as it did. -/
def waveTogetherUptoRow : OpenClaim := { program := "ytingkbglkaojdaa", sum := "2ba5df15543eb9a7e0e1ed81d90b80d367f15f486fd9d281d19b04be5e602fd2", func := "tumblehome/tumblehomelaw05.WaveTogether", spec := "waveTogether", unfollowed := true, recurses := true, plainKeys := false, apart := false, narrowed := true }
def WaveTogetherUptoSaid : Prop := waveTogetherUptoRow.holds Try.pinned (OpenSpec.upto waveTogetherSpec)

/-- 'tumblehomelaw05.WaveFlat', WHERE WHAT IT READS IS OF BULK AT MOST 1048576: true; the input reads as it did. -/
def waveFlatUptoRow : OpenClaim := { program := "ytingkbglkaojdaa", sum := "2ba5df15543eb9a7e0e1ed81d90b80d367f15f486fd9d281d19b04be5e602fd2", func := "tumblehome/tumblehomelaw05.WaveFlat", spec := "waveFlat", unfollowed := true, recurses := true, plainKeys := false, apart := false, narrowed := true }
def WaveFlatUptoSaid : Prop := waveFlatUptoRow.holds Try.pinned (OpenSpec.upto waveFlatSpec)

/-- 'tumblehomelaw05.WaveSpectrum', WHERE WHAT IT READS IS OF BULK AT MOST 1048576: true; the input reads as it did. -/
def waveSpectrumUptoRow : OpenClaim := { program := "ytingkbglkaojdaa", sum := "2ba5df15543eb9a7e0e1ed81d90b80d367f15f486fd9d281d19b04be5e602fd2", func := "tumblehome/tumblehomelaw05.WaveSpectrum", spec := "waveSpectrum", unfollowed := true, recurses := true, plainKeys := false, apart := false, narrowed := true }
def WaveSpectrumUptoSaid : Prop := waveSpectrumUptoRow.holds Try.pinned (OpenSpec.upto waveSpectrumSpec)

/-- 'tumblehomelaw05.WavePeriod', WHERE WHAT IT READS IS OF BULK AT MOST 1048576: true; the input reads as it did. -/
def wavePeriodUptoRow : OpenClaim := { program := "ytingkbglkaojdaa", sum := "2ba5df15543eb9a7e0e1ed81d90b80d367f15f486fd9d281d19b04be5e602fd2", func := "tumblehome/tumblehomelaw05.WavePeriod", spec := "wavePeriod", unfollowed := true, recurses := true, plainKeys := false, apart := false, narrowed := true }
def WavePeriodUptoSaid : Prop := wavePeriodUptoRow.holds Try.pinned (OpenSpec.upto wavePeriodSpec)

/-- 'tumblehomelaw05.WaveRuns', WHERE WHAT IT READS IS OF BULK AT MOST 1048576: true; the input reads as it did. -/
def waveRunsUptoRow : OpenClaim := { program := "ytingkbglkaojdaa", sum := "2ba5df15543eb9a7e0e1ed81d90b80d367f15f486fd9d281d19b04be5e602fd2", func := "tumblehome/tumblehomelaw05.WaveRuns", spec := "waveRuns", unfollowed := true, recurses := true, plainKeys := false, apart := false, narrowed := true }
def WaveRunsUptoSaid : Prop := waveRunsUptoRow.holds Try.pinned (OpenSpec.upto waveRunsSpec)

/-- 'tumblehomelaw05.WaveOnly', WHERE WHAT IT READS IS OF BULK AT MOST 1048576: true; the input reads as it did. -/
def waveOnlyUptoRow : OpenClaim := { program := "ytingkbglkaojdaa", sum := "2ba5df15543eb9a7e0e1ed81d90b80d367f15f486fd9d281d19b04be5e602fd2", func := "tumblehome/tumblehomelaw05.WaveOnly", spec := "waveOnly", unfollowed := true, recurses := true, plainKeys := false, apart := false, narrowed := true }
def WaveOnlyUptoSaid : Prop := waveOnlyUptoRow.holds Try.pinned (OpenSpec.upto waveOnlySpec)

/-- 'tumblehomelaw05.WaveProofs', WHERE WHAT IT READS IS OF BULK AT MOST 1048576: true; the input reads as it did. -/
def waveProofsUptoRow : OpenClaim := { program := "ytingkbglkaojdaa", sum := "2ba5df15543eb9a7e0e1ed81d90b80d367f15f486fd9d281d19b04be5e602fd2", func := "tumblehome/tumblehomelaw05.WaveProofs", spec := "waveProofs", unfollowed := true, recurses := true, plainKeys := false, apart := false, narrowed := true }
def WaveProofsUptoSaid : Prop := waveProofsUptoRow.holds Try.pinned (OpenSpec.upto waveProofsSpec)

/-- 'tumblehomelaw05.WaveKnown', WHERE WHAT IT READS IS OF BULK AT MOST 1048576: true; the input reads as it did. -/
def waveKnownUptoRow : OpenClaim := { program := "ytingkbglkaojdaa", sum := "2ba5df15543eb9a7e0e1ed81d90b80d367f15f486fd9d281d19b04be5e602fd2", func := "tumblehome/tumblehomelaw05.WaveKnown", spec := "waveKnown", unfollowed := true, recurses := true, plainKeys := false, apart := false, narrowed := true }
def WaveKnownUptoSaid : Prop := waveKnownUptoRow.holds Try.pinned (OpenSpec.upto waveKnownSpec)

/-- 'tumblehomelaw05.WaveShortest', WHERE WHAT IT READS IS OF BULK AT MOST 1048576: true; the input reads as it did. -/
def waveShortestUptoRow : OpenClaim := { program := "ytingkbglkaojdaa", sum := "2ba5df15543eb9a7e0e1ed81d90b80d367f15f486fd9d281d19b04be5e602fd2", func := "tumblehome/tumblehomelaw05.WaveShortest", spec := "waveShortest", unfollowed := true, recurses := true, plainKeys := false, apart := false, narrowed := true }
def WaveShortestUptoSaid : Prop := waveShortestUptoRow.holds Try.pinned (OpenSpec.upto waveShortestSpec)

end Rows
end Go.Proofs.Ytingkbglkaojdaa
