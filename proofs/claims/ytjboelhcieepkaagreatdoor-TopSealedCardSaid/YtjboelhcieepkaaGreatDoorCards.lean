/-
  DERIVED. GIVEN WITH THE SEED: THE CARDS: each row of YtjboelhcieepkaaGreatDoorRows.lean that lists a variable, with what it lists TIED to the program's text (the seventh form; the later family's looks); each row that meets fmt, with fmt's text TOLD by the authors' own Lean function (tested against real Go, not proved from fmt's source: count such statements apart). THE CARD IS WHAT COUNTS. Prove the row's statement (the work); the ties are given (YtjboelhcieepkaaGreatDoorTie.lean); close each card by the builder's one call (the guide's Derived/Test/ToyasCard.lean, 'card_holds'). Laid BY PROGRAM, IN A SANDBOX (cutbox-door.mjs). By AI agents, Wed Nov 11 2026. No macro, syntax, notation, axiom, sorry.
-/
import Derived.Test.YtjboelhcieepkaaGreatDoorRows
import GoSem.ClaimSeven
namespace Go.Proofs.YtjboelhcieepkaaGreatDoor
namespace Rows

/-- THE TIED CARD OF 'caissontop.TopNode'. -/
def topNodeCard : Claim7 := { stood := { row := topNodeRow, standIns := [], harness := (true, "4b5d1eb46ee354b03d94f9774939435b6db422599e62a20a4bc9f242d24baff5"), looks := true }, kinds := [], alts := [], laidByText := true, laidKinds := [.data, .data, .handle, .data, .sentinel], laidTests := true, laidLooks := .later }
def TopNodeCardSaid : Prop := Claim7.holds Tryz.pinned (.plain (OpenSpec.ofChange topNodeSpec)) topNodeCard

/-- THE TIED CARD OF 'caissontop.TopSealed'. -/
def topSealedCard : Claim7 := { stood := { row := topSealedRow, standIns := [], harness := (true, "4b5d1eb46ee354b03d94f9774939435b6db422599e62a20a4bc9f242d24baff5"), looks := true }, kinds := [], alts := [], laidByText := true, laidKinds := [.data, .data, .handle, .data, .sentinel], laidTests := true, laidLooks := .later }
def TopSealedCardSaid : Prop := Claim7.holds Tryz.pinned (.plain (OpenSpec.ofChange topSealedSpec)) topSealedCard

/-- THE SECOND FORM's CARD OF 'caissontop.TopNode'. -/
def topNodeUptoCard : Claim7 := { stood := { row := topNodeUptoRow, standIns := [], harness := (true, "4b5d1eb46ee354b03d94f9774939435b6db422599e62a20a4bc9f242d24baff5"), looks := true }, kinds := [], alts := [], laidByText := true, laidKinds := [.data, .data, .handle, .data, .sentinel], laidTests := true, laidLooks := .later }
def TopNodeUptoCardSaid : Prop := Claim7.holds Tryz.pinned (.plain (OpenSpec.upto topNodeSpec)) topNodeUptoCard

/-- THE SECOND FORM's CARD OF 'caissontop.TopSealed'. -/
def topSealedUptoCard : Claim7 := { stood := { row := topSealedUptoRow, standIns := [], harness := (true, "4b5d1eb46ee354b03d94f9774939435b6db422599e62a20a4bc9f242d24baff5"), looks := true }, kinds := [], alts := [], laidByText := true, laidKinds := [.data, .data, .handle, .data, .sentinel], laidTests := true, laidLooks := .later }
def TopSealedUptoCardSaid : Prop := Claim7.holds Tryz.pinned (.plain (OpenSpec.upto topSealedSpec)) topSealedUptoCard
end Rows
end Go.Proofs.YtjboelhcieepkaaGreatDoor
