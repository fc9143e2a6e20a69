/-
  DERIVED. GIVEN WITH THE SEED: THE CARDS: each row of YtbjgkolblfpakaaDoorRows.lean that lists a variable, with what it lists TIED to the program's text (the seventh form; the later family's looks); each row that meets fmt, with fmt's text TOLD by the authors' own Lean function (tested against real Go, not proved from fmt's source: count such statements apart). THE CARD IS WHAT COUNTS. Prove the row's statement (the work); the ties are given (YtbjgkolblfpakaaDoorTie.lean); close each card by the builder's one call (the guide's Derived/Test/ToyasCard.lean, 'card_holds'). Laid BY PROGRAM, IN A SANDBOX (cutbox-door.mjs). By AI agents, Wed Nov 11 2026. No macro, syntax, notation, axiom, sorry.
-/
import Derived.Test.YtbjgkolblfpakaaDoorRows
import GoSem.ClaimSeven
namespace Go.Proofs.YtbjgkolblfpakaaDoor
namespace Rows

/-- THE TIED CARD OF 'caissonlaw02.DigestsCompress'. -/
def digestsCompressCard : Claim7 := { stood := { row := digestsCompressRow, standIns := [], harness := (true, "e95178d6c317b5d34b31534dbba86050144031dcf35b3eec0aa66116ce31fb8a"), looks := false }, kinds := [], alts := [], laidByText := true, laidKinds := [.data, .data], laidTests := true, laidLooks := .later }
def DigestsCompressCardSaid : Prop := Claim7.holds Tryd.pinned (.plain (OpenSpec.ofChange digestsCompressSpec)) digestsCompressCard

/-- THE SECOND FORM's CARD OF 'caissonlaw02.DigestsCompress'. -/
def digestsCompressUptoCard : Claim7 := { stood := { row := digestsCompressUptoRow, standIns := [], harness := (true, "e95178d6c317b5d34b31534dbba86050144031dcf35b3eec0aa66116ce31fb8a"), looks := false }, kinds := [], alts := [], laidByText := true, laidKinds := [.data, .data], laidTests := true, laidLooks := .later }
def DigestsCompressUptoCardSaid : Prop := Claim7.holds Tryd.pinned (.plain (OpenSpec.upto digestsCompressSpec)) digestsCompressUptoCard
end Rows
end Go.Proofs.YtbjgkolblfpakaaDoor
