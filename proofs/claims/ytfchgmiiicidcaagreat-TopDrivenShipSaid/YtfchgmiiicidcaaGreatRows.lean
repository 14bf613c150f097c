/-
  No cell of these rows narrows 'for every input' (looked for: loops, veiled, ifaces, maps, wideKeys, modest, calm, conditions, laid).
  DERIVED. THE GIVEN ROWS OF THIS SEAT. 4 by the template 'for every input the law returns true; each argument reads behind the call as it read before'; 0 by the template 'total and deterministic' (their statements: YtfchgmiiicidcaaGreatTotals.lean).
  GIVEN WITH THE SEED: the statements are not yours to turn. If you find one false, say at which input.
  Laid BY PROGRAM, IN A SANDBOX (cutbox-rows.mjs): the forced cells as the released guide's own fill.sh prints them over the translation 05df68e859929aec… (all of the seat's roots in one cut). By AI agents, Wed Nov 11 2026. No macro, syntax, notation, axiom, sorry.
-/
import Derived.Test.YtfchgmiiicidcaaGreatChecked
import GoSem.Claim
import GoSem.ClaimJoined
import GoSem.ClaimMapViews
import Derived.JoinedTies
import Derived.KernelRfl
namespace Go.Proofs.YtfchgmiiicidcaaGreat
/- THE CELL 'sum', in the pinned program and in every row, IS THE sha256 OF THE DUMP (.gsa) THAT YtfchgmiiicidcaaGreatProg.lean LOADS. Nothing in Lean hashes anything: it is a label: what it is worth is what the hold of that sum in a sandbox is worth. -/
noncomputable def Tryz.pinned : Pinned := { name := "ytfchgmiiicidcaagreat", sum := "05df68e859929aecbd106d60b21ea25bc0c8dedc2e98b86f69463c8df61e7e5d", checked := Tryz.checked }
namespace Rows
def none {H : Type} : Left H := { results := [], args := [] }

/-- 'tumblehometop.TopChartRuns': WHATEVER THE INPUT: true; the input reads as it did. -/
def topChartRunsSpec : ChangeSpec := { name := "topChartRuns", fn := fun _ => fun
  | [d1, d2, d3, d4] => { results := [.lit (.bool true)], args := [d1, d2, d3, d4] }
  | _ => none }
def topChartRunsRow : OpenClaim := { program := "ytfchgmiiicidcaagreat", sum := "05df68e859929aecbd106d60b21ea25bc0c8dedc2e98b86f69463c8df61e7e5d", func := "tumblehome/tumblehometop.TopChartRuns", spec := "topChartRuns", unfollowed := true, recurses := true, plainKeys := false, apart := false }
def TopChartRunsSaid : Prop := topChartRunsRow.holds Tryz.pinned (OpenSpec.ofChange topChartRunsSpec)

/-- ITS FALSE NEIGHBOUR: 'it returns false'. Refute it at one input. -/
def topChartRunsWrong : ChangeSpec := { name := "topChartRuns", fn := fun _ => fun
  | [d1, d2, d3, d4] => { results := [.lit (.bool false)], args := [d1, d2, d3, d4] }
  | _ => none }
def TopChartRunsWrongFalsely : Prop := topChartRunsRow.holds Tryz.pinned (OpenSpec.ofChange topChartRunsWrong)

/-- 'tumblehometop.TopDrivenShip': WHATEVER THE INPUT: true; the input reads as it did. -/
def topDrivenShipSpec : ChangeSpec := { name := "topDrivenShip", fn := fun _ => fun
  | [d1, d2, d3, d4, d5, d6, d7] => { results := [.lit (.bool true)], args := [d1, d2, d3, d4, d5, d6, d7] }
  | _ => none }
def topDrivenShipRow : OpenClaim := { program := "ytfchgmiiicidcaagreat", sum := "05df68e859929aecbd106d60b21ea25bc0c8dedc2e98b86f69463c8df61e7e5d", func := "tumblehome/tumblehometop.TopDrivenShip", spec := "topDrivenShip", unfollowed := true, recurses := true, plainKeys := false, apart := false }
def TopDrivenShipSaid : Prop := topDrivenShipRow.holds Tryz.pinned (OpenSpec.ofChange topDrivenShipSpec)

/-- ITS FALSE NEIGHBOUR: 'it returns false'. Refute it at one input. -/
def topDrivenShipWrong : ChangeSpec := { name := "topDrivenShip", fn := fun _ => fun
  | [d1, d2, d3, d4, d5, d6, d7] => { results := [.lit (.bool false)], args := [d1, d2, d3, d4, d5, d6, d7] }
  | _ => none }
def TopDrivenShipWrongFalsely : Prop := topDrivenShipRow.holds Tryz.pinned (OpenSpec.ofChange topDrivenShipWrong)

/-- 'tumblehometop.TopFairedChart': WHATEVER THE INPUT: true; the input reads as it did. -/
def topFairedChartSpec : ChangeSpec := { name := "topFairedChart", fn := fun _ => fun
  | [d1, d2, d3] => { results := [.lit (.bool true)], args := [d1, d2, d3] }
  | _ => none }
def topFairedChartRow : OpenClaim := { program := "ytfchgmiiicidcaagreat", sum := "05df68e859929aecbd106d60b21ea25bc0c8dedc2e98b86f69463c8df61e7e5d", func := "tumblehome/tumblehometop.TopFairedChart", spec := "topFairedChart", unfollowed := true, recurses := true, plainKeys := false, apart := false }
def TopFairedChartSaid : Prop := topFairedChartRow.holds Tryz.pinned (OpenSpec.ofChange topFairedChartSpec)

/-- ITS FALSE NEIGHBOUR: 'it returns false'. Refute it at one input. -/
def topFairedChartWrong : ChangeSpec := { name := "topFairedChart", fn := fun _ => fun
  | [d1, d2, d3] => { results := [.lit (.bool false)], args := [d1, d2, d3] }
  | _ => none }
def TopFairedChartWrongFalsely : Prop := topFairedChartRow.holds Tryz.pinned (OpenSpec.ofChange topFairedChartWrong)

/-- 'tumblehometop.TopNeededSpan': WHATEVER THE INPUT: true; the input reads as it did. -/
def topNeededSpanSpec : ChangeSpec := { name := "topNeededSpan", fn := fun _ => fun
  | [d1, d2, d3, d4, d5, d6] => { results := [.lit (.bool true)], args := [d1, d2, d3, d4, d5, d6] }
  | _ => none }
def topNeededSpanRow : OpenClaim := { program := "ytfchgmiiicidcaagreat", sum := "05df68e859929aecbd106d60b21ea25bc0c8dedc2e98b86f69463c8df61e7e5d", func := "tumblehome/tumblehometop.TopNeededSpan", spec := "topNeededSpan", unfollowed := true, recurses := true, plainKeys := false, apart := false }
def TopNeededSpanSaid : Prop := topNeededSpanRow.holds Tryz.pinned (OpenSpec.ofChange topNeededSpanSpec)

/-- ITS FALSE NEIGHBOUR: 'it returns false'. Refute it at one input. -/
def topNeededSpanWrong : ChangeSpec := { name := "topNeededSpan", fn := fun _ => fun
  | [d1, d2, d3, d4, d5, d6] => { results := [.lit (.bool false)], args := [d1, d2, d3, d4, d5, d6] }
  | _ => none }
def TopNeededSpanWrongFalsely : Prop := topNeededSpanRow.holds Tryz.pinned (OpenSpec.ofChange topNeededSpanWrong)

/- THE SECOND FORM. 'bulk': how many values and letters a reading holds, each counted each time it is reached (what is shared counts as often as it is met; a slice's spare places count too). A statement '..UptoSaid' is the law's where the arguments, and the package variables that the reading takes, are together of bulk at most 1048576: NARROWER than '..Said'. Prove '..Said' where nothing that the law and all that it calls make is longer than what came in: it says more and counts as full. Else prove '..UptoSaid'. A law counts once. -/
mutual
def uptoBulk {H : Type} : DataW H → Nat
  | .lit (.string bytes) => bytes.length + 1
  | .lit _ => 1
  | .nil => 1
  | .ptr d => uptoBulk d + 1
  | .slice elems spare => uptoBulkAll elems + uptoBulkAll spare + 1
  | .agg parts => uptoBulkAll parts + 1
  | .iface _ d => uptoBulk d + 1
  | .map entries => uptoBulkEntries entries + 1
  | .held _ => 1
def uptoBulkAll {H : Type} : List (DataW H) → Nat
  | [] => 0
  | d :: r => uptoBulk d + uptoBulkAll r
def uptoBulkEntries {H : Type} : List (Lit × DataW H) → Nat
  | [] => 0
  | x :: r => uptoBulkEntry x + uptoBulkEntries r
def uptoBulkEntry {H : Type} : Lit × DataW H → Nat
  | (.string bytes, d) => bytes.length + uptoBulk d + 1
  | (_, d) => uptoBulk d + 1
 end
def uptoSmall : (H : Type) → List (DataW H) → Bool := fun _ ds => decide (uptoBulkAll ds ≤ 1048576)
def OpenSpec.upto (s : _root_.Go.ChangeSpec) : _root_.Go.OpenSpec := { _root_.Go.OpenSpec.ofChange s with cond := some uptoSmall }

/-- 'tumblehometop.TopChartRuns', WHERE WHAT IT READS IS OF BULK AT MOST 1048576: true; the input reads as it did. -/
def topChartRunsUptoRow : OpenClaim := { program := "ytfchgmiiicidcaagreat", sum := "05df68e859929aecbd106d60b21ea25bc0c8dedc2e98b86f69463c8df61e7e5d", func := "tumblehome/tumblehometop.TopChartRuns", spec := "topChartRuns", unfollowed := true, recurses := true, plainKeys := false, apart := false, narrowed := true }
def TopChartRunsUptoSaid : Prop := topChartRunsUptoRow.holds Tryz.pinned (OpenSpec.upto topChartRunsSpec)

/-- 'tumblehometop.TopDrivenShip', WHERE WHAT IT READS IS OF BULK AT MOST 1048576: true; the input reads as it did. -/
def topDrivenShipUptoRow : OpenClaim := { program := "ytfchgmiiicidcaagreat", sum := "05df68e859929aecbd106d60b21ea25bc0c8dedc2e98b86f69463c8df61e7e5d", func := "tumblehome/tumblehometop.TopDrivenShip", spec := "topDrivenShip", unfollowed := true, recurses := true, plainKeys := false, apart := false, narrowed := true }
def TopDrivenShipUptoSaid : Prop := topDrivenShipUptoRow.holds Tryz.pinned (OpenSpec.upto topDrivenShipSpec)

/-- 'tumblehometop.TopFairedChart', WHERE WHAT IT READS IS OF BULK AT MOST 1048576: true; the input reads as it did. -/
def topFairedChartUptoRow : OpenClaim := { program := "ytfchgmiiicidcaagreat", sum := "05df68e859929aecbd106d60b21ea25bc0c8dedc2e98b86f69463c8df61e7e5d", func := "tumblehome/tumblehometop.TopFairedChart", spec := "topFairedChart", unfollowed := true, recurses := true, plainKeys := false, apart := false, narrowed := true }
def TopFairedChartUptoSaid : Prop := topFairedChartUptoRow.holds Tryz.pinned (OpenSpec.upto topFairedChartSpec)

/-- 'tumblehometop.TopNeededSpan', WHERE WHAT IT READS IS OF BULK AT MOST 1048576: true; the input reads as it did. -/
def topNeededSpanUptoRow : OpenClaim := { program := "ytfchgmiiicidcaagreat", sum := "05df68e859929aecbd106d60b21ea25bc0c8dedc2e98b86f69463c8df61e7e5d", func := "tumblehome/tumblehometop.TopNeededSpan", spec := "topNeededSpan", unfollowed := true, recurses := true, plainKeys := false, apart := false, narrowed := true }
def TopNeededSpanUptoSaid : Prop := topNeededSpanUptoRow.holds Tryz.pinned (OpenSpec.upto topNeededSpanSpec)

end Rows
end Go.Proofs.YtfchgmiiicidcaaGreat
