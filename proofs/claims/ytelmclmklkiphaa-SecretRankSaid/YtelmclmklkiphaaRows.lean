/-
  No cell of these rows narrows 'for every input' (looked for: loops, veiled, ifaces, maps, wideKeys, modest, calm, conditions, laid).
  DERIVED. THE GIVEN ROWS OF THIS SEAT. 4 by the template 'for every input the law returns true; each argument reads behind the call as it read before'; 0 by the template 'total and deterministic' (their statements: YtelmclmklkiphaaTotals.lean).
  GIVEN WITH THE SEED: the statements are not yours to turn. If you find one false, say at which input.
  Laid BY PROGRAM, IN A SANDBOX (cutbox-rows.mjs): the forced cells as the released guide's own fill.sh prints them over the translation 8913e7eb1d543c78… (all of the seat's roots in one cut). By AI agents, Wed Nov 11 2026. No macro, syntax, notation, axiom, sorry.
-/
import Derived.Test.YtelmclmklkiphaaChecked
import GoSem.Claim
import GoSem.ClaimJoined
import GoSem.ClaimMapViews
import Derived.JoinedTies
import Derived.KernelRfl
namespace Go.Proofs.Ytelmclmklkiphaa
/- THE CELL 'sum', in the pinned program and in every row, IS THE sha256 OF THE DUMP (.gsa) THAT YtelmclmklkiphaaProg.lean LOADS. Nothing in Lean hashes anything: it is a label: what it is worth is what the hold of that sum in a sandbox is worth. -/
noncomputable def Try.pinned : Pinned := { name := "ytelmclmklkiphaa", sum := "8913e7eb1d543c78210ae2ad224ee156ac09181603ea95928f793b6be98e037f", checked := Try.checked }
namespace Rows
def none {H : Type} : Left H := { results := [], args := [] }

/-- 'tumblehomelaw03.SecretProofs': WHATEVER THE INPUT: true; the input reads as it did. -/
def secretProofsSpec : ChangeSpec := { name := "secretProofs", fn := fun _ => fun
  | [d1, d2, d3, d4] => { results := [.lit (.bool true)], args := [d1, d2, d3, d4] }
  | _ => none }
def secretProofsRow : OpenClaim := { program := "ytelmclmklkiphaa", sum := "8913e7eb1d543c78210ae2ad224ee156ac09181603ea95928f793b6be98e037f", func := "tumblehome/tumblehomelaw03.SecretProofs", spec := "secretProofs", unfollowed := true, recurses := true, apart := false }
def SecretProofsSaid : Prop := secretProofsRow.holds Try.pinned (OpenSpec.ofChange secretProofsSpec)

/-- ITS FALSE NEIGHBOUR: 'it returns false'. Refute it at one input. -/
def secretProofsWrong : ChangeSpec := { name := "secretProofs", fn := fun _ => fun
  | [d1, d2, d3, d4] => { results := [.lit (.bool false)], args := [d1, d2, d3, d4] }
  | _ => none }
def SecretProofsWrongFalsely : Prop := secretProofsRow.holds Try.pinned (OpenSpec.ofChange secretProofsWrong)

/-- 'tumblehomelaw03.SecretMays': WHATEVER THE INPUT: true; the input reads as it did. -/
def secretMaysSpec : ChangeSpec := { name := "secretMays", fn := fun _ => fun
  | [d1, d2, d3] => { results := [.lit (.bool true)], args := [d1, d2, d3] }
  | _ => none }
def secretMaysRow : OpenClaim := { program := "ytelmclmklkiphaa", sum := "8913e7eb1d543c78210ae2ad224ee156ac09181603ea95928f793b6be98e037f", func := "tumblehome/tumblehomelaw03.SecretMays", spec := "secretMays", unfollowed := true, recurses := true, apart := false }
def SecretMaysSaid : Prop := secretMaysRow.holds Try.pinned (OpenSpec.ofChange secretMaysSpec)

/-- ITS FALSE NEIGHBOUR: 'it returns false'. Refute it at one input. -/
def secretMaysWrong : ChangeSpec := { name := "secretMays", fn := fun _ => fun
  | [d1, d2, d3] => { results := [.lit (.bool false)], args := [d1, d2, d3] }
  | _ => none }
def SecretMaysWrongFalsely : Prop := secretMaysRow.holds Try.pinned (OpenSpec.ofChange secretMaysWrong)

/-- 'tumblehomelaw03.SecretMore': WHATEVER THE INPUT: true; the input reads as it did. -/
def secretMoreSpec : ChangeSpec := { name := "secretMore", fn := fun _ => fun
  | [d1, d2, d3] => { results := [.lit (.bool true)], args := [d1, d2, d3] }
  | _ => none }
def secretMoreRow : OpenClaim := { program := "ytelmclmklkiphaa", sum := "8913e7eb1d543c78210ae2ad224ee156ac09181603ea95928f793b6be98e037f", func := "tumblehome/tumblehomelaw03.SecretMore", spec := "secretMore", unfollowed := true, recurses := true, apart := false }
def SecretMoreSaid : Prop := secretMoreRow.holds Try.pinned (OpenSpec.ofChange secretMoreSpec)

/-- ITS FALSE NEIGHBOUR: 'it returns false'. Refute it at one input. -/
def secretMoreWrong : ChangeSpec := { name := "secretMore", fn := fun _ => fun
  | [d1, d2, d3] => { results := [.lit (.bool false)], args := [d1, d2, d3] }
  | _ => none }
def SecretMoreWrongFalsely : Prop := secretMoreRow.holds Try.pinned (OpenSpec.ofChange secretMoreWrong)

/-- 'tumblehomelaw03.SecretRank': WHATEVER THE INPUT: true; the input reads as it did. -/
def secretRankSpec : ChangeSpec := { name := "secretRank", fn := fun _ => fun
  | [d1, d2] => { results := [.lit (.bool true)], args := [d1, d2] }
  | _ => none }
def secretRankRow : OpenClaim := { program := "ytelmclmklkiphaa", sum := "8913e7eb1d543c78210ae2ad224ee156ac09181603ea95928f793b6be98e037f", func := "tumblehome/tumblehomelaw03.SecretRank", spec := "secretRank", unfollowed := true, recurses := true, apart := false }
def SecretRankSaid : Prop := secretRankRow.holds Try.pinned (OpenSpec.ofChange secretRankSpec)

/-- ITS FALSE NEIGHBOUR: 'it returns false'. Refute it at one input. -/
def secretRankWrong : ChangeSpec := { name := "secretRank", fn := fun _ => fun
  | [d1, d2] => { results := [.lit (.bool false)], args := [d1, d2] }
  | _ => none }
def SecretRankWrongFalsely : Prop := secretRankRow.holds Try.pinned (OpenSpec.ofChange secretRankWrong)

/- THE SECOND FORM. 'bulk': how many values and letters a reading holds, each counted each time it is reached (what is shared counts as often as it is met; a slice's spare places count too). A statement '..UptoSaid' is the law's where the arguments, and the package variables that the reading takes, are together of bulk at most 1048576: NARROWER than '..Said'. Prove '..Said' where nothing that the law and all that it calls make is longer than what came in: it says more and counts as full. Else prove '..UptoSaid'. A law counts once. -/
mutual
def uptoBulk {H : Type} : DataW H → Nat
  | .lit (.string bytes) => bytes.length + 1
  | .lit _ => 1
  | .nil => 1
  | .ptr d => uptoBulk d + 1
  | .slice elems spare => uptoBulkAll elems + uptoBulkAll spare + 1
  | .agg parts => uptoBulkAll parts + 1
  | .iface _ d => uptoBulk d + 1
  | .map entries => uptoBulkEntries entries + 1
  | .held _ => 1
def uptoBulkAll {H : Type} : List (DataW H) → Nat
  | [] => 0
  | d :: r => uptoBulk d + uptoBulkAll r
def uptoBulkEntries {H : Type} : List (Lit × DataW H) → Nat
  | [] => 0
  | x :: r => uptoBulkEntry x + uptoBulkEntries r
def uptoBulkEntry {H : Type} : Lit × DataW H → Nat
  | (.string bytes, d) => bytes.length + uptoBulk d + 1
  | (_, d) => uptoBulk d + 1
 end
def uptoSmall : (H : Type) → List (DataW H) → Bool := fun _ ds => decide (uptoBulkAll ds ≤ 1048576)
def OpenSpec.upto (s : _root_.Go.ChangeSpec) : _root_.Go.OpenSpec := { _root_.Go.OpenSpec.ofChange s with cond := some uptoSmall }

/-- 'tumblehomelaw03.SecretProofs', WHERE WHAT IT READS IS OF BULK AT MOST 1048576: true; the input reads as it did. -/
def secretProofsUptoRow : OpenClaim := { program := "ytelmclmklkiphaa", sum := "8913e7eb1d543c78210ae2ad224ee156ac09181603ea95928f793b6be98e037f", func := "tumblehome/tumblehomelaw03.SecretProofs", spec := "secretProofs", unfollowed := true, recurses := true, apart := false, narrowed := true }
def SecretProofsUptoSaid : Prop := secretProofsUptoRow.holds Try.pinned (OpenSpec.upto secretProofsSpec)

/-- 'tumblehomelaw03.SecretMays', WHERE WHAT IT READS IS OF BULK AT MOST 1048576: true; the input reads as it did. -/
def secretMaysUptoRow : OpenClaim := { program := "ytelmclmklkiphaa", sum := "8913e7eb1d543c78210ae2ad224ee156ac09181603ea95928f793b6be98e037f", func := "tumblehome/tumblehomelaw03.SecretMays", spec := "secretMays", unfollowed := true, recurses := true, apart := false, narrowed := true }
def SecretMaysUptoSaid : Prop := secretMaysUptoRow.holds Try.pinned (OpenSpec.upto secretMaysSpec)

/-- 'tumblehomelaw03.SecretMore', WHERE WHAT IT READS IS OF BULK AT MOST 1048576: true; the input reads as it did. -/
def secretMoreUptoRow : OpenClaim := { program := "ytelmclmklkiphaa", sum := "8913e7eb1d543c78210ae2ad224ee156ac09181603ea95928f793b6be98e037f", func := "tumblehome/tumblehomelaw03.SecretMore", spec := "secretMore", unfollowed := true, recurses := true, apart := false, narrowed := true }
def SecretMoreUptoSaid : Prop := secretMoreUptoRow.holds Try.pinned (OpenSpec.upto secretMoreSpec)

/-- 'tumblehomelaw03.SecretRank', WHERE WHAT IT READS IS OF BULK AT MOST 1048576: true; the input reads as it did. -/
def secretRankUptoRow : OpenClaim := { program := "ytelmclmklkiphaa", sum := "8913e7eb1d543c78210ae2ad224ee156ac09181603ea95928f793b6be98e037f", func := "tumblehome/tumblehomelaw03.SecretRank", spec := "secretRank", unfollowed := true, recurses := true, apart := false, narrowed := true }
def SecretRankUptoSaid : Prop := secretRankUptoRow.holds Try.pinned (OpenSpec.upto secretRankSpec)

end Rows
end Go.Proofs.Ytelmclmklkiphaa
