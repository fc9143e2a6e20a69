/-
  DERIVED. GIVEN WITH THE SEED: THE CARDS: each row of YtfnhjbamomolfaaDoorRows.lean that lists a variable, with what it lists TIED to the program's text (the seventh form; the later family's looks); each row that meets fmt, with fmt's text TOLD by the authors' own Lean function (tested against real Go, not proved from fmt's source: count such statements apart). THE CARD IS WHAT COUNTS. Prove the row's statement (the work); the ties are given (YtfnhjbamomolfaaDoorTie.lean); close each card by the builder's one call (the guide's Derived/Test/ToyasCard.lean, 'card_holds'). Laid BY PROGRAM, IN A SANDBOX (cutbox-door.mjs). By AI agents, Wed Nov 11 2026. No macro, syntax, notation, axiom, sorry.
-/
import Derived.Test.YtfnhjbamomolfaaDoorRows
import GoSem.ClaimSeven
namespace Go.Proofs.YtfnhjbamomolfaaDoor
namespace Rows

/-- THE TIED CARD OF 'caissonlaw03.MacsBlock'. -/
def macsBlockCard : Claim7 := { stood := { row := macsBlockRow, standIns := [], harness := (true, "31ae70ae4cc112768d86d76ab08ec356a6c5df842bc6a7e07f48213170524050"), looks := false }, kinds := [], alts := [], laidByText := true, laidKinds := [.data, .data], laidTests := true, laidLooks := .later }
def MacsBlockCardSaid : Prop := Claim7.holds Tryd.pinned (.plain (OpenSpec.ofChange macsBlockSpec)) macsBlockCard

/-- THE TIED CARD OF 'caissonlaw03.MacsOf'. -/
def macsOfCard : Claim7 := { stood := { row := macsOfRow, standIns := [], harness := (true, "31ae70ae4cc112768d86d76ab08ec356a6c5df842bc6a7e07f48213170524050"), looks := false }, kinds := [], alts := [], laidByText := true, laidKinds := [.data, .data], laidTests := true, laidLooks := .later }
def MacsOfCardSaid : Prop := Claim7.holds Tryd.pinned (.plain (OpenSpec.ofChange macsOfSpec)) macsOfCard

/-- THE TIED CARD OF 'caissonlaw03.MacsVerify'. -/
def macsVerifyCard : Claim7 := { stood := { row := macsVerifyRow, standIns := [], harness := (true, "31ae70ae4cc112768d86d76ab08ec356a6c5df842bc6a7e07f48213170524050"), looks := false }, kinds := [], alts := [], laidByText := true, laidKinds := [.data, .data], laidTests := true, laidLooks := .later }
def MacsVerifyCardSaid : Prop := Claim7.holds Tryd.pinned (.plain (OpenSpec.ofChange macsVerifySpec)) macsVerifyCard

/-- THE TIED CARD OF 'caissonlaw03.MacsKey'. -/
def macsKeyCard : Claim7 := { stood := { row := macsKeyRow, standIns := [], harness := (true, "31ae70ae4cc112768d86d76ab08ec356a6c5df842bc6a7e07f48213170524050"), looks := false }, kinds := [], alts := [], laidByText := true, laidKinds := [.data, .data], laidTests := true, laidLooks := .later }
def MacsKeyCardSaid : Prop := Claim7.holds Tryd.pinned (.plain (OpenSpec.ofChange macsKeySpec)) macsKeyCard

/-- THE TIED CARD OF 'caissonlaw03.MacsKnown'. -/
def macsKnownCard : Claim7 := { stood := { row := macsKnownRow, standIns := [], harness := (true, "31ae70ae4cc112768d86d76ab08ec356a6c5df842bc6a7e07f48213170524050"), looks := false }, kinds := [], alts := [], laidByText := true, laidKinds := [.data, .data], laidTests := true, laidLooks := .later }
def MacsKnownCardSaid : Prop := Claim7.holds Tryd.pinned (.plain (OpenSpec.ofChange macsKnownSpec)) macsKnownCard

/-- THE SECOND FORM's CARD OF 'caissonlaw03.MacsBlock'. -/
def macsBlockUptoCard : Claim7 := { stood := { row := macsBlockUptoRow, standIns := [], harness := (true, "31ae70ae4cc112768d86d76ab08ec356a6c5df842bc6a7e07f48213170524050"), looks := false }, kinds := [], alts := [], laidByText := true, laidKinds := [.data, .data], laidTests := true, laidLooks := .later }
def MacsBlockUptoCardSaid : Prop := Claim7.holds Tryd.pinned (.plain (OpenSpec.upto macsBlockSpec)) macsBlockUptoCard

/-- THE SECOND FORM's CARD OF 'caissonlaw03.MacsOf'. -/
def macsOfUptoCard : Claim7 := { stood := { row := macsOfUptoRow, standIns := [], harness := (true, "31ae70ae4cc112768d86d76ab08ec356a6c5df842bc6a7e07f48213170524050"), looks := false }, kinds := [], alts := [], laidByText := true, laidKinds := [.data, .data], laidTests := true, laidLooks := .later }
def MacsOfUptoCardSaid : Prop := Claim7.holds Tryd.pinned (.plain (OpenSpec.upto macsOfSpec)) macsOfUptoCard

/-- THE SECOND FORM's CARD OF 'caissonlaw03.MacsVerify'. -/
def macsVerifyUptoCard : Claim7 := { stood := { row := macsVerifyUptoRow, standIns := [], harness := (true, "31ae70ae4cc112768d86d76ab08ec356a6c5df842bc6a7e07f48213170524050"), looks := false }, kinds := [], alts := [], laidByText := true, laidKinds := [.data, .data], laidTests := true, laidLooks := .later }
def MacsVerifyUptoCardSaid : Prop := Claim7.holds Tryd.pinned (.plain (OpenSpec.upto macsVerifySpec)) macsVerifyUptoCard

/-- THE SECOND FORM's CARD OF 'caissonlaw03.MacsKey'. -/
def macsKeyUptoCard : Claim7 := { stood := { row := macsKeyUptoRow, standIns := [], harness := (true, "31ae70ae4cc112768d86d76ab08ec356a6c5df842bc6a7e07f48213170524050"), looks := false }, kinds := [], alts := [], laidByText := true, laidKinds := [.data, .data], laidTests := true, laidLooks := .later }
def MacsKeyUptoCardSaid : Prop := Claim7.holds Tryd.pinned (.plain (OpenSpec.upto macsKeySpec)) macsKeyUptoCard

/-- THE SECOND FORM's CARD OF 'caissonlaw03.MacsKnown'. -/
def macsKnownUptoCard : Claim7 := { stood := { row := macsKnownUptoRow, standIns := [], harness := (true, "31ae70ae4cc112768d86d76ab08ec356a6c5df842bc6a7e07f48213170524050"), looks := false }, kinds := [], alts := [], laidByText := true, laidKinds := [.data, .data], laidTests := true, laidLooks := .later }
def MacsKnownUptoCardSaid : Prop := Claim7.holds Tryd.pinned (.plain (OpenSpec.upto macsKnownSpec)) macsKnownUptoCard
end Rows
end Go.Proofs.YtfnhjbamomolfaaDoor
