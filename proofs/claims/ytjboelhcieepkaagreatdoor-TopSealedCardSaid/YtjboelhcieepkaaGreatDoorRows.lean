/-
  NARROWER THAN 'FOR EVERY INPUT', by the rows' own cells (each row's printed sentence says how): TopNode: laid · TopSealed: laid.
  DERIVED. THE GIVEN ROWS OF THIS SEAT. 2 by the template 'for every input the law returns true; each argument reads behind the call as it read before'; 0 by the template 'total and deterministic' (their statements: YtjboelhcieepkaaGreatDoorTotals.lean).
  GIVEN WITH THE SEED: the statements are not yours to turn. If you find one false, say at which input.
  Laid BY PROGRAM, IN A SANDBOX (cutbox-rows.mjs): the forced cells as the released guide's own fill.sh prints them over the translation 580fcdf74eed3cd9… (all of the seat's roots in one cut). By AI agents, Wed Nov 11 2026. No macro, syntax, notation, axiom, sorry.
-/
import Derived.Test.YtjboelhcieepkaaGreatDoorChecked
import GoSem.Claim
import GoSem.ClaimJoined
import GoSem.ClaimMapViews
import Derived.JoinedTies
import Derived.KernelRfl
namespace Go.Proofs.YtjboelhcieepkaaGreatDoor
/- THE CELL 'sum', in the pinned program and in every row, IS THE sha256 OF THE DUMP (.gsa) THAT YtjboelhcieepkaaGreatDoorProg.lean LOADS. Nothing in Lean hashes anything: it is a label: what it is worth is what the hold of that sum in a sandbox is worth. -/
noncomputable def Tryz.pinned : Pinned := { name := "ytjboelhcieepkaagreatdoor", sum := "580fcdf74eed3cd997d40c271b0c814f1e4b649227b7a837eea9156857145114", checked := Tryz.checked }
namespace Rows
def none {H : Type} : Left H := { results := [], args := [] }

/- WHAT THE LISTED PACKAGE-LEVEL VARIABLES READ AS WHEN THE CALL BEGINS. Each datum BY PROGRAM (the guide's laid-datum.mjs) off the statement by which the dump's own 'gosem.cut.vars' lays the variable. In a bare row this is a premise. The card (YtjboelhcieepkaaGreatDoorCards.lean) ties it to the program's text. -/
def laid_caisson_digests_initial {H : Type} : DataW H := .agg [.lit (.int .u32 1779033703), .lit (.int .u32 3144134277), .lit (.int .u32 1013904242), .lit (.int .u32 2773480762), .lit (.int .u32 1359893119), .lit (.int .u32 2600822924), .lit (.int .u32 528734635), .lit (.int .u32 1541459225)]
def laid_caisson_digests_constants {H : Type} : DataW H := .agg [.lit (.int .u32 1116352408), .lit (.int .u32 1899447441), .lit (.int .u32 3049323471), .lit (.int .u32 3921009573), .lit (.int .u32 961987163), .lit (.int .u32 1508970993), .lit (.int .u32 2453635748), .lit (.int .u32 2870763221), .lit (.int .u32 3624381080), .lit (.int .u32 310598401), .lit (.int .u32 607225278), .lit (.int .u32 1426881987), .lit (.int .u32 1925078388), .lit (.int .u32 2162078206), .lit (.int .u32 2614888103), .lit (.int .u32 3248222580), .lit (.int .u32 3835390401), .lit (.int .u32 4022224774), .lit (.int .u32 264347078), .lit (.int .u32 604807628), .lit (.int .u32 770255983), .lit (.int .u32 1249150122), .lit (.int .u32 1555081692), .lit (.int .u32 1996064986), .lit (.int .u32 2554220882), .lit (.int .u32 2821834349), .lit (.int .u32 2952996808), .lit (.int .u32 3210313671), .lit (.int .u32 3336571891), .lit (.int .u32 3584528711), .lit (.int .u32 113926993), .lit (.int .u32 338241895), .lit (.int .u32 666307205), .lit (.int .u32 773529912), .lit (.int .u32 1294757372), .lit (.int .u32 1396182291), .lit (.int .u32 1695183700), .lit (.int .u32 1986661051), .lit (.int .u32 2177026350), .lit (.int .u32 2456956037), .lit (.int .u32 2730485921), .lit (.int .u32 2820302411), .lit (.int .u32 3259730800), .lit (.int .u32 3345764771), .lit (.int .u32 3516065817), .lit (.int .u32 3600352804), .lit (.int .u32 4094571909), .lit (.int .u32 275423344), .lit (.int .u32 430227734), .lit (.int .u32 506948616), .lit (.int .u32 659060556), .lit (.int .u32 883997877), .lit (.int .u32 958139571), .lit (.int .u32 1322822218), .lit (.int .u32 1537002063), .lit (.int .u32 1747873779), .lit (.int .u32 1955562222), .lit (.int .u32 2024104815), .lit (.int .u32 2227730452), .lit (.int .u32 2361852424), .lit (.int .u32 2428436474), .lit (.int .u32 2756734187), .lit (.int .u32 3204031479), .lit (.int .u32 3329325298)]
def laid_errors_errorType {H : Type} : DataW H := .iface "internal/reflectlite.rtype" (.agg [.ptr (.lit (.string [101, 114, 114, 111, 114]))])
def laid_caisson_nodes_sizes {H : Type} : DataW H := .agg [.lit (.int .i64 45), .lit (.int .i64 33)]
def laid_caisson_stores_errPoison {H : Type} : DataW H := .iface "*errors.errorString" (.ptr (.agg [.lit (.string [116, 104, 101, 32, 115, 116, 111, 114, 101, 32, 105, 115, 32, 112, 111, 105, 115, 111, 110, 101, 100])]))

/-- 'caissontop.TopNode': WHATEVER THE INPUT: true; the input reads as it did. -/
def topNodeSpec : ChangeSpec := { name := "topNode", fn := fun _ => fun
  | [d1, d2] => { results := [.lit (.bool true)], args := [d1, d2] }
  | _ => none }
def topNodeRow : OpenClaim := { program := "ytjboelhcieepkaagreatdoor", sum := "580fcdf74eed3cd997d40c271b0c814f1e4b649227b7a837eea9156857145114", func := "caisson/caissontop.TopNode", spec := "topNode", inPlace := ["internal/reflectlite.ValueOf", "(internal/reflectlite.Value).Type", "(internal/reflectlite.Value).IsNil", "internal/reflectlite.TypeOf", "(internal/reflectlite.Value).Elem", "(internal/reflectlite.Value).Set"], unfollowed := true, recurses := true, named := ["caisson/nodes.sizes", "caisson/digests.initial", "caisson/digests.constants", "errors.errorType", "caisson/stores.errPoison"], apart := false, laid := [("caisson/digests.initial", laid_caisson_digests_initial), ("caisson/digests.constants", laid_caisson_digests_constants), ("errors.errorType", laid_errors_errorType), ("caisson/nodes.sizes", laid_caisson_nodes_sizes), ("caisson/stores.errPoison", laid_caisson_stores_errPoison)] }
def TopNodeSaid : Prop := topNodeRow.holds Tryz.pinned (OpenSpec.ofChange topNodeSpec)

/-- ITS FALSE NEIGHBOUR: 'it returns false'. Refute it at one input. -/
def topNodeWrong : ChangeSpec := { name := "topNode", fn := fun _ => fun
  | [d1, d2] => { results := [.lit (.bool false)], args := [d1, d2] }
  | _ => none }
def TopNodeWrongFalsely : Prop := topNodeRow.holds Tryz.pinned (OpenSpec.ofChange topNodeWrong)

/-- 'caissontop.TopSealed': WHATEVER THE INPUT: true; the input reads as it did. -/
def topSealedSpec : ChangeSpec := { name := "topSealed", fn := fun _ => fun
  | [d1, d2, d3] => { results := [.lit (.bool true)], args := [d1, d2, d3] }
  | _ => none }
def topSealedRow : OpenClaim := { program := "ytjboelhcieepkaagreatdoor", sum := "580fcdf74eed3cd997d40c271b0c814f1e4b649227b7a837eea9156857145114", func := "caisson/caissontop.TopSealed", spec := "topSealed", inPlace := ["internal/reflectlite.ValueOf", "(internal/reflectlite.Value).Type", "(internal/reflectlite.Value).IsNil", "internal/reflectlite.TypeOf", "(internal/reflectlite.Value).Elem", "(internal/reflectlite.Value).Set"], unfollowed := true, recurses := true, named := ["caisson/nodes.sizes", "caisson/digests.initial", "caisson/digests.constants", "errors.errorType", "caisson/stores.errPoison"], apart := false, laid := [("caisson/digests.initial", laid_caisson_digests_initial), ("caisson/digests.constants", laid_caisson_digests_constants), ("errors.errorType", laid_errors_errorType), ("caisson/nodes.sizes", laid_caisson_nodes_sizes), ("caisson/stores.errPoison", laid_caisson_stores_errPoison)] }
def TopSealedSaid : Prop := topSealedRow.holds Tryz.pinned (OpenSpec.ofChange topSealedSpec)

/-- ITS FALSE NEIGHBOUR: 'it returns false'. Refute it at one input. -/
def topSealedWrong : ChangeSpec := { name := "topSealed", fn := fun _ => fun
  | [d1, d2, d3] => { results := [.lit (.bool false)], args := [d1, d2, d3] }
  | _ => none }
def TopSealedWrongFalsely : Prop := topSealedRow.holds Tryz.pinned (OpenSpec.ofChange topSealedWrong)

/- THE SECOND FORM. 'bulk': how many values and letters a reading holds, each counted each time it is reached (what is shared counts as often as it is met; a slice's spare places count too). A statement '..UptoSaid' is the law's where the arguments, and the package variables that the reading takes, are together of bulk at most 1048576: NARROWER than '..Said'. Prove '..Said' where nothing that the law and all that it calls make is longer than what came in: it says more and counts as full. Else prove '..UptoSaid'. A law counts once. -/
mutual
def uptoBulk {H : Type} : DataW H → Nat
  | .lit (.string bytes) => bytes.length + 1
  | .lit _ => 1
  | .nil => 1
  | .ptr d => uptoBulk d + 1
  | .slice elems spare => uptoBulkAll elems + uptoBulkAll spare + 1
  | .agg parts => uptoBulkAll parts + 1
  | .iface _ d => uptoBulk d + 1
  | .map entries => uptoBulkEntries entries + 1
  | .held _ => 1
def uptoBulkAll {H : Type} : List (DataW H) → Nat
  | [] => 0
  | d :: r => uptoBulk d + uptoBulkAll r
def uptoBulkEntries {H : Type} : List (Lit × DataW H) → Nat
  | [] => 0
  | x :: r => uptoBulkEntry x + uptoBulkEntries r
def uptoBulkEntry {H : Type} : Lit × DataW H → Nat
  | (.string bytes, d) => bytes.length + uptoBulk d + 1
  | (_, d) => uptoBulk d + 1
 end
def uptoSmall : (H : Type) → List (DataW H) → Bool := fun _ ds => decide (uptoBulkAll ds ≤ 1048576)
def OpenSpec.upto (s : _root_.Go.ChangeSpec) : _root_.Go.OpenSpec := { _root_.Go.OpenSpec.ofChange s with cond := some uptoSmall }

/-- 'caissontop.TopNode', WHERE WHAT IT READS IS OF BULK AT MOST 1048576: true; the input reads as it did. -/
def topNodeUptoRow : OpenClaim := { program := "ytjboelhcieepkaagreatdoor", sum := "580fcdf74eed3cd997d40c271b0c814f1e4b649227b7a837eea9156857145114", func := "caisson/caissontop.TopNode", spec := "topNode", inPlace := ["internal/reflectlite.ValueOf", "(internal/reflectlite.Value).Type", "(internal/reflectlite.Value).IsNil", "internal/reflectlite.TypeOf", "(internal/reflectlite.Value).Elem", "(internal/reflectlite.Value).Set"], unfollowed := true, recurses := true, named := ["caisson/nodes.sizes", "caisson/digests.initial", "caisson/digests.constants", "errors.errorType", "caisson/stores.errPoison"], apart := false, laid := [("caisson/digests.initial", laid_caisson_digests_initial), ("caisson/digests.constants", laid_caisson_digests_constants), ("errors.errorType", laid_errors_errorType), ("caisson/nodes.sizes", laid_caisson_nodes_sizes), ("caisson/stores.errPoison", laid_caisson_stores_errPoison)], narrowed := true }
def TopNodeUptoSaid : Prop := topNodeUptoRow.holds Tryz.pinned (OpenSpec.upto topNodeSpec)

/-- 'caissontop.TopSealed', WHERE WHAT IT READS IS OF BULK AT MOST 1048576: true; the input reads as it did. -/
def topSealedUptoRow : OpenClaim := { program := "ytjboelhcieepkaagreatdoor", sum := "580fcdf74eed3cd997d40c271b0c814f1e4b649227b7a837eea9156857145114", func := "caisson/caissontop.TopSealed", spec := "topSealed", inPlace := ["internal/reflectlite.ValueOf", "(internal/reflectlite.Value).Type", "(internal/reflectlite.Value).IsNil", "internal/reflectlite.TypeOf", "(internal/reflectlite.Value).Elem", "(internal/reflectlite.Value).Set"], unfollowed := true, recurses := true, named := ["caisson/nodes.sizes", "caisson/digests.initial", "caisson/digests.constants", "errors.errorType", "caisson/stores.errPoison"], apart := false, laid := [("caisson/digests.initial", laid_caisson_digests_initial), ("caisson/digests.constants", laid_caisson_digests_constants), ("errors.errorType", laid_errors_errorType), ("caisson/nodes.sizes", laid_caisson_nodes_sizes), ("caisson/stores.errPoison", laid_caisson_stores_errPoison)], narrowed := true }
def TopSealedUptoSaid : Prop := topSealedUptoRow.holds Tryz.pinned (OpenSpec.upto topSealedSpec)

end Rows
end Go.Proofs.YtjboelhcieepkaaGreatDoor
