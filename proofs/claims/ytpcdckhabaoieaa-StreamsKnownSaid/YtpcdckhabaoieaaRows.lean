/-
  No cell of these rows narrows 'for every input' (looked for: loops, veiled, ifaces, maps, wideKeys, modest, calm, conditions, laid).
  DERIVED. THE GIVEN ROWS OF THIS SEAT. 6 by the template 'for every input the law returns true; each argument reads behind the call as it read before'; 0 by the template 'total and deterministic' (their statements: YtpcdckhabaoieaaTotals.lean).
  GIVEN WITH THE SEED: the statements are not yours to turn. If you find one false, say at which input.
  Laid BY PROGRAM, IN A SANDBOX (cutbox-rows.mjs): the forced cells as the released guide's own fill.sh prints them over the translation 33f58233d5c64de1… (all of the seat's roots in one cut). By AI agents, Wed Nov 11 2026. No macro, syntax, notation, axiom, sorry.
-/
import Derived.Test.YtpcdckhabaoieaaChecked
import GoSem.Claim
import GoSem.ClaimJoined
import GoSem.ClaimMapViews
import Derived.JoinedTies
import Derived.KernelRfl
namespace Go.Proofs.Ytpcdckhabaoieaa
/- THE CELL 'sum', in the pinned program and in every row, IS THE sha256 OF THE DUMP (.gsa) THAT YtpcdckhabaoieaaProg.lean LOADS. Nothing in Lean hashes anything: it is a label: what it is worth is what the hold of that sum in a sandbox is worth. -/
noncomputable def Try.pinned : Pinned := { name := "ytpcdckhabaoieaa", sum := "33f58233d5c64de1b839e555f3904a73cfc7e4692c17a09bc67343a885dbfe2b", checked := Try.checked }
namespace Rows
def none {H : Type} : Left H := { results := [], args := [] }

/-- 'caissonlaw07.StreamsBlock': WHATEVER THE INPUT: true; the input reads as it did. -/
def streamsBlockSpec : ChangeSpec := { name := "streamsBlock", fn := fun _ => fun
  | [d1, d2] => { results := [.lit (.bool true)], args := [d1, d2] }
  | _ => none }
def streamsBlockRow : OpenClaim := { program := "ytpcdckhabaoieaa", sum := "33f58233d5c64de1b839e555f3904a73cfc7e4692c17a09bc67343a885dbfe2b", func := "caisson/caissonlaw07.StreamsBlock", spec := "streamsBlock", unfollowed := true, recurses := true, apart := false }
def StreamsBlockSaid : Prop := streamsBlockRow.holds Try.pinned (OpenSpec.ofChange streamsBlockSpec)

/-- ITS FALSE NEIGHBOUR: 'it returns false'. Refute it at one input. -/
def streamsBlockWrong : ChangeSpec := { name := "streamsBlock", fn := fun _ => fun
  | [d1, d2] => { results := [.lit (.bool false)], args := [d1, d2] }
  | _ => none }
def StreamsBlockWrongFalsely : Prop := streamsBlockRow.holds Try.pinned (OpenSpec.ofChange streamsBlockWrong)

/-- 'caissonlaw07.StreamsUsed': WHATEVER THE INPUT: true; the input reads as it did. -/
def streamsUsedSpec : ChangeSpec := { name := "streamsUsed", fn := fun _ => fun
  | [d1, d2, d3] => { results := [.lit (.bool true)], args := [d1, d2, d3] }
  | _ => none }
def streamsUsedRow : OpenClaim := { program := "ytpcdckhabaoieaa", sum := "33f58233d5c64de1b839e555f3904a73cfc7e4692c17a09bc67343a885dbfe2b", func := "caisson/caissonlaw07.StreamsUsed", spec := "streamsUsed", unfollowed := true, recurses := true, apart := false }
def StreamsUsedSaid : Prop := streamsUsedRow.holds Try.pinned (OpenSpec.ofChange streamsUsedSpec)

/-- ITS FALSE NEIGHBOUR: 'it returns false'. Refute it at one input. -/
def streamsUsedWrong : ChangeSpec := { name := "streamsUsed", fn := fun _ => fun
  | [d1, d2, d3] => { results := [.lit (.bool false)], args := [d1, d2, d3] }
  | _ => none }
def StreamsUsedWrongFalsely : Prop := streamsUsedRow.holds Try.pinned (OpenSpec.ofChange streamsUsedWrong)

/-- 'caissonlaw07.StreamsOverlap': WHATEVER THE INPUT: true; the input reads as it did. -/
def streamsOverlapSpec : ChangeSpec := { name := "streamsOverlap", fn := fun _ => fun
  | [d1, d2] => { results := [.lit (.bool true)], args := [d1, d2] }
  | _ => none }
def streamsOverlapRow : OpenClaim := { program := "ytpcdckhabaoieaa", sum := "33f58233d5c64de1b839e555f3904a73cfc7e4692c17a09bc67343a885dbfe2b", func := "caisson/caissonlaw07.StreamsOverlap", spec := "streamsOverlap", unfollowed := true, recurses := true, apart := false }
def StreamsOverlapSaid : Prop := streamsOverlapRow.holds Try.pinned (OpenSpec.ofChange streamsOverlapSpec)

/-- ITS FALSE NEIGHBOUR: 'it returns false'. Refute it at one input. -/
def streamsOverlapWrong : ChangeSpec := { name := "streamsOverlap", fn := fun _ => fun
  | [d1, d2] => { results := [.lit (.bool false)], args := [d1, d2] }
  | _ => none }
def StreamsOverlapWrongFalsely : Prop := streamsOverlapRow.holds Try.pinned (OpenSpec.ofChange streamsOverlapWrong)

/-- 'caissonlaw07.StreamsXor': WHATEVER THE INPUT: true; the input reads as it did. -/
def streamsXorSpec : ChangeSpec := { name := "streamsXor", fn := fun _ => fun
  | [d1, d2, d3] => { results := [.lit (.bool true)], args := [d1, d2, d3] }
  | _ => none }
def streamsXorRow : OpenClaim := { program := "ytpcdckhabaoieaa", sum := "33f58233d5c64de1b839e555f3904a73cfc7e4692c17a09bc67343a885dbfe2b", func := "caisson/caissonlaw07.StreamsXor", spec := "streamsXor", unfollowed := true, recurses := true, apart := false }
def StreamsXorSaid : Prop := streamsXorRow.holds Try.pinned (OpenSpec.ofChange streamsXorSpec)

/-- ITS FALSE NEIGHBOUR: 'it returns false'. Refute it at one input. -/
def streamsXorWrong : ChangeSpec := { name := "streamsXor", fn := fun _ => fun
  | [d1, d2, d3] => { results := [.lit (.bool false)], args := [d1, d2, d3] }
  | _ => none }
def StreamsXorWrongFalsely : Prop := streamsXorRow.holds Try.pinned (OpenSpec.ofChange streamsXorWrong)

/-- 'caissonlaw07.StreamsParts': WHATEVER THE INPUT: true; the input reads as it did. -/
def streamsPartsSpec : ChangeSpec := { name := "streamsParts", fn := fun _ => fun
  | [d1, d2, d3] => { results := [.lit (.bool true)], args := [d1, d2, d3] }
  | _ => none }
def streamsPartsRow : OpenClaim := { program := "ytpcdckhabaoieaa", sum := "33f58233d5c64de1b839e555f3904a73cfc7e4692c17a09bc67343a885dbfe2b", func := "caisson/caissonlaw07.StreamsParts", spec := "streamsParts", unfollowed := true, recurses := true, apart := false }
def StreamsPartsSaid : Prop := streamsPartsRow.holds Try.pinned (OpenSpec.ofChange streamsPartsSpec)

/-- ITS FALSE NEIGHBOUR: 'it returns false'. Refute it at one input. -/
def streamsPartsWrong : ChangeSpec := { name := "streamsParts", fn := fun _ => fun
  | [d1, d2, d3] => { results := [.lit (.bool false)], args := [d1, d2, d3] }
  | _ => none }
def StreamsPartsWrongFalsely : Prop := streamsPartsRow.holds Try.pinned (OpenSpec.ofChange streamsPartsWrong)

/-- 'caissonlaw07.StreamsKnown': WHATEVER THE INPUT: true; the input reads as it did. -/
def streamsKnownSpec : ChangeSpec := { name := "streamsKnown", fn := fun _ => fun
  | [] => { results := [.lit (.bool true)], args := [] }
  | _ => none }
def streamsKnownRow : OpenClaim := { program := "ytpcdckhabaoieaa", sum := "33f58233d5c64de1b839e555f3904a73cfc7e4692c17a09bc67343a885dbfe2b", func := "caisson/caissonlaw07.StreamsKnown", spec := "streamsKnown", unfollowed := true, recurses := true, apart := false }
def StreamsKnownSaid : Prop := streamsKnownRow.holds Try.pinned (OpenSpec.ofChange streamsKnownSpec)

/-- ITS FALSE NEIGHBOUR: 'it returns false'. Refute it at one input. -/
def streamsKnownWrong : ChangeSpec := { name := "streamsKnown", fn := fun _ => fun
  | [] => { results := [.lit (.bool false)], args := [] }
  | _ => none }
def StreamsKnownWrongFalsely : Prop := streamsKnownRow.holds Try.pinned (OpenSpec.ofChange streamsKnownWrong)

/- THE SECOND FORM. 'bulk': how many values and letters a reading holds, each counted each time it is reached (what is shared counts as often as it is met; a slice's spare places count too). A statement '..UptoSaid' is the law's where the arguments, and the package variables that the reading takes, are together of bulk at most 1048576: NARROWER than '..Said'. Prove '..Said' where nothing that the law and all that it calls make is longer than what came in: it says more and counts as full. Else prove '..UptoSaid'. A law counts once. -/
mutual
def uptoBulk {H : Type} : DataW H → Nat
  | .lit (.string bytes) => bytes.length + 1
  | .lit _ => 1
  | .nil => 1
  | .ptr d => uptoBulk d + 1
  | .slice elems spare => uptoBulkAll elems + uptoBulkAll spare + 1
  | .agg parts => uptoBulkAll parts + 1
  | .iface _ d => uptoBulk d + 1
  | .map entries => uptoBulkEntries entries + 1
  | .held _ => 1
def uptoBulkAll {H : Type} : List (DataW H) → Nat
  | [] => 0
  | d :: r => uptoBulk d + uptoBulkAll r
def uptoBulkEntries {H : Type} : List (Lit × DataW H) → Nat
  | [] => 0
  | x :: r => uptoBulkEntry x + uptoBulkEntries r
def uptoBulkEntry {H : Type} : Lit × DataW H → Nat
  | (.string bytes, d) => bytes.length + uptoBulk d + 1
  | (_, d) => uptoBulk d + 1
 end
def uptoSmall : (H : Type) → List (DataW H) → Bool := fun _ ds => decide (uptoBulkAll ds ≤ 1048576)
def OpenSpec.upto (s : _root_.Go.ChangeSpec) : _root_.Go.OpenSpec := { _root_.Go.OpenSpec.ofChange s with cond := some uptoSmall }

/-- 'caissonlaw07.StreamsBlock', WHERE WHAT IT READS IS OF BULK AT MOST 1048576: true; the input reads as it did. -/
def streamsBlockUptoRow : OpenClaim := { program := "ytpcdckhabaoieaa", sum := "33f58233d5c64de1b839e555f3904a73cfc7e4692c17a09bc67343a885dbfe2b", func := "caisson/caissonlaw07.StreamsBlock", spec := "streamsBlock", unfollowed := true, recurses := true, apart := false, narrowed := true }
def StreamsBlockUptoSaid : Prop := streamsBlockUptoRow.holds Try.pinned (OpenSpec.upto streamsBlockSpec)

/-- 'caissonlaw07.StreamsUsed', WHERE WHAT IT READS IS OF BULK AT MOST 1048576: true; the input reads as it did. -/
def streamsUsedUptoRow : OpenClaim := { program := "ytpcdckhabaoieaa", sum := "33f58233d5c64de1b839e555f3904a73cfc7e4692c17a09bc67343a885dbfe2b", func := "caisson/caissonlaw07.StreamsUsed", spec := "streamsUsed", unfollowed := true, recurses := true, apart := false, narrowed := true }
def StreamsUsedUptoSaid : Prop := streamsUsedUptoRow.holds Try.pinned (OpenSpec.upto streamsUsedSpec)

/-- 'caissonlaw07.StreamsOverlap', WHERE WHAT IT READS IS OF BULK AT MOST 1048576: true; the input reads as it did. -/
def streamsOverlapUptoRow : OpenClaim := { program := "ytpcdckhabaoieaa", sum := "33f58233d5c64de1b839e555f3904a73cfc7e4692c17a09bc67343a885dbfe2b", func := "caisson/caissonlaw07.StreamsOverlap", spec := "streamsOverlap", unfollowed := true, recurses := true, apart := false, narrowed := true }
def StreamsOverlapUptoSaid : Prop := streamsOverlapUptoRow.holds Try.pinned (OpenSpec.upto streamsOverlapSpec)

/-- 'caissonlaw07.StreamsXor', WHERE WHAT IT READS IS OF BULK AT MOST 1048576: true; the input reads as it did. -/
def streamsXorUptoRow : OpenClaim := { program := "ytpcdckhabaoieaa", sum := "33f58233d5c64de1b839e555f3904a73cfc7e4692c17a09bc67343a885dbfe2b", func := "caisson/caissonlaw07.StreamsXor", spec := "streamsXor", unfollowed := true, recurses := true, apart := false, narrowed := true }
def StreamsXorUptoSaid : Prop := streamsXorUptoRow.holds Try.pinned (OpenSpec.upto streamsXorSpec)

/-- 'caissonlaw07.StreamsParts', WHERE WHAT IT READS IS OF BULK AT MOST 1048576: true; the input reads as it did. -/
def streamsPartsUptoRow : OpenClaim := { program := "ytpcdckhabaoieaa", sum := "33f58233d5c64de1b839e555f3904a73cfc7e4692c17a09bc67343a885dbfe2b", func := "caisson/caissonlaw07.StreamsParts", spec := "streamsParts", unfollowed := true, recurses := true, apart := false, narrowed := true }
def StreamsPartsUptoSaid : Prop := streamsPartsUptoRow.holds Try.pinned (OpenSpec.upto streamsPartsSpec)

/-- 'caissonlaw07.StreamsKnown', WHERE WHAT IT READS IS OF BULK AT MOST 1048576: true; the input reads as it did. -/
def streamsKnownUptoRow : OpenClaim := { program := "ytpcdckhabaoieaa", sum := "33f58233d5c64de1b839e555f3904a73cfc7e4692c17a09bc67343a885dbfe2b", func := "caisson/caissonlaw07.StreamsKnown", spec := "streamsKnown", unfollowed := true, recurses := true, apart := false, narrowed := true }
def StreamsKnownUptoSaid : Prop := streamsKnownUptoRow.holds Try.pinned (OpenSpec.upto streamsKnownSpec)

end Rows
end Go.Proofs.Ytpcdckhabaoieaa
