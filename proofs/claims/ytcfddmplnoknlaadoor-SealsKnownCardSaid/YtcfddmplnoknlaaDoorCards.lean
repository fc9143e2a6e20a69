/-
  DERIVED. GIVEN WITH THE SEED: THE CARDS: each row of YtcfddmplnoknlaaDoorRows.lean that lists a variable, with what it lists TIED to the program's text (the seventh form; the later family's looks); each row that meets fmt, with fmt's text TOLD by the authors' own Lean function (tested against real Go, not proved from fmt's source: count such statements apart). THE CARD IS WHAT COUNTS. Prove the row's statement (the work); the ties are given (YtcfddmplnoknlaaDoorTie.lean); close each card by the builder's one call (the guide's Derived/Test/ToyasCard.lean, 'card_holds'). Laid BY PROGRAM, IN A SANDBOX (cutbox-door.mjs). By AI agents, Wed Nov 11 2026. No macro, syntax, notation, axiom, sorry.
-/
import Derived.Test.YtcfddmplnoknlaaDoorRows
import GoSem.ClaimSeven
namespace Go.Proofs.YtcfddmplnoknlaaDoor
namespace Rows

/-- THE TIED CARD OF 'caissonlaw09.SealsMessage'. -/
def sealsMessageCard : Claim7 := { stood := { row := sealsMessageRow, standIns := [], harness := (true, "46cc3f6f4b025341c15d6f2d71293d6cfce88e3a8e0417c99045ccaccec7acfe"), looks := false }, kinds := [], alts := [], laidByText := true, laidKinds := [.data, .data], laidTests := true, laidLooks := .later }
def SealsMessageCardSaid : Prop := Claim7.holds Tryd.pinned (.plain (OpenSpec.ofChange sealsMessageSpec)) sealsMessageCard

/-- THE TIED CARD OF 'caissonlaw09.SealsBack'. -/
def sealsBackCard : Claim7 := { stood := { row := sealsBackRow, standIns := [], harness := (true, "46cc3f6f4b025341c15d6f2d71293d6cfce88e3a8e0417c99045ccaccec7acfe"), looks := false }, kinds := [], alts := [], laidByText := true, laidKinds := [.data, .data], laidTests := true, laidLooks := .later }
def SealsBackCardSaid : Prop := Claim7.holds Tryd.pinned (.plain (OpenSpec.ofChange sealsBackSpec)) sealsBackCard

/-- THE TIED CARD OF 'caissonlaw09.SealsOpen'. -/
def sealsOpenCard : Claim7 := { stood := { row := sealsOpenRow, standIns := [], harness := (true, "46cc3f6f4b025341c15d6f2d71293d6cfce88e3a8e0417c99045ccaccec7acfe"), looks := false }, kinds := [], alts := [], laidByText := true, laidKinds := [.data, .data], laidTests := true, laidLooks := .later }
def SealsOpenCardSaid : Prop := Claim7.holds Tryd.pinned (.plain (OpenSpec.ofChange sealsOpenSpec)) sealsOpenCard

/-- THE TIED CARD OF 'caissonlaw09.SealsChanged'. -/
def sealsChangedCard : Claim7 := { stood := { row := sealsChangedRow, standIns := [], harness := (true, "46cc3f6f4b025341c15d6f2d71293d6cfce88e3a8e0417c99045ccaccec7acfe"), looks := false }, kinds := [], alts := [], laidByText := true, laidKinds := [.data, .data], laidTests := true, laidLooks := .later }
def SealsChangedCardSaid : Prop := Claim7.holds Tryd.pinned (.plain (OpenSpec.ofChange sealsChangedSpec)) sealsChangedCard

/-- THE TIED CARD OF 'caissonlaw09.SealsKnown'. -/
def sealsKnownCard : Claim7 := { stood := { row := sealsKnownRow, standIns := [], harness := (true, "46cc3f6f4b025341c15d6f2d71293d6cfce88e3a8e0417c99045ccaccec7acfe"), looks := false }, kinds := [], alts := [], laidByText := true, laidKinds := [.data, .data], laidTests := true, laidLooks := .later }
def SealsKnownCardSaid : Prop := Claim7.holds Tryd.pinned (.plain (OpenSpec.ofChange sealsKnownSpec)) sealsKnownCard

/-- THE SECOND FORM's CARD OF 'caissonlaw09.SealsMessage'. -/
def sealsMessageUptoCard : Claim7 := { stood := { row := sealsMessageUptoRow, standIns := [], harness := (true, "46cc3f6f4b025341c15d6f2d71293d6cfce88e3a8e0417c99045ccaccec7acfe"), looks := false }, kinds := [], alts := [], laidByText := true, laidKinds := [.data, .data], laidTests := true, laidLooks := .later }
def SealsMessageUptoCardSaid : Prop := Claim7.holds Tryd.pinned (.plain (OpenSpec.upto sealsMessageSpec)) sealsMessageUptoCard

/-- THE SECOND FORM's CARD OF 'caissonlaw09.SealsBack'. -/
def sealsBackUptoCard : Claim7 := { stood := { row := sealsBackUptoRow, standIns := [], harness := (true, "46cc3f6f4b025341c15d6f2d71293d6cfce88e3a8e0417c99045ccaccec7acfe"), looks := false }, kinds := [], alts := [], laidByText := true, laidKinds := [.data, .data], laidTests := true, laidLooks := .later }
def SealsBackUptoCardSaid : Prop := Claim7.holds Tryd.pinned (.plain (OpenSpec.upto sealsBackSpec)) sealsBackUptoCard

/-- THE SECOND FORM's CARD OF 'caissonlaw09.SealsOpen'. -/
def sealsOpenUptoCard : Claim7 := { stood := { row := sealsOpenUptoRow, standIns := [], harness := (true, "46cc3f6f4b025341c15d6f2d71293d6cfce88e3a8e0417c99045ccaccec7acfe"), looks := false }, kinds := [], alts := [], laidByText := true, laidKinds := [.data, .data], laidTests := true, laidLooks := .later }
def SealsOpenUptoCardSaid : Prop := Claim7.holds Tryd.pinned (.plain (OpenSpec.upto sealsOpenSpec)) sealsOpenUptoCard

/-- THE SECOND FORM's CARD OF 'caissonlaw09.SealsChanged'. -/
def sealsChangedUptoCard : Claim7 := { stood := { row := sealsChangedUptoRow, standIns := [], harness := (true, "46cc3f6f4b025341c15d6f2d71293d6cfce88e3a8e0417c99045ccaccec7acfe"), looks := false }, kinds := [], alts := [], laidByText := true, laidKinds := [.data, .data], laidTests := true, laidLooks := .later }
def SealsChangedUptoCardSaid : Prop := Claim7.holds Tryd.pinned (.plain (OpenSpec.upto sealsChangedSpec)) sealsChangedUptoCard

/-- THE SECOND FORM's CARD OF 'caissonlaw09.SealsKnown'. -/
def sealsKnownUptoCard : Claim7 := { stood := { row := sealsKnownUptoRow, standIns := [], harness := (true, "46cc3f6f4b025341c15d6f2d71293d6cfce88e3a8e0417c99045ccaccec7acfe"), looks := false }, kinds := [], alts := [], laidByText := true, laidKinds := [.data, .data], laidTests := true, laidLooks := .later }
def SealsKnownUptoCardSaid : Prop := Claim7.holds Tryd.pinned (.plain (OpenSpec.upto sealsKnownSpec)) sealsKnownUptoCard
end Rows
end Go.Proofs.YtcfddmplnoknlaaDoor
