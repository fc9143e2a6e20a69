/-
  DERIVED. GIVEN WITH THE SEED: THE CARDS: each row of YtcdgcaljlmondaaDoorRows.lean that lists a variable, with what it lists TIED to the program's text (the seventh form; the later family's looks); each row that meets fmt, with fmt's text TOLD by the authors' own Lean function (tested against real Go, not proved from fmt's source: count such statements apart). THE CARD IS WHAT COUNTS. Prove the row's statement (the work); the ties are given (YtcdgcaljlmondaaDoorTie.lean); close each card by the builder's one call (the guide's Derived/Test/ToyasCard.lean, 'card_holds'). Laid BY PROGRAM, IN A SANDBOX (cutbox-door.mjs). By AI agents, Wed Nov 11 2026. No macro, syntax, notation, axiom, sorry.
-/
import Derived.Test.YtcdgcaljlmondaaDoorRows
import GoSem.ClaimSeven
namespace Go.Proofs.YtcdgcaljlmondaaDoor
namespace Rows

/-- THE TIED CARD OF 'caissontop.TopCells'. -/
def topCellsCard : Claim7 := { stood := { row := topCellsRow, standIns := [], harness := (true, "8b1fa637f774f8705bfc54089f0e78fd697f007cde47b3beb75a3ad78cbba446"), looks := false }, kinds := [], alts := [], laidByText := true, laidKinds := [.data, .data], laidTests := true, laidLooks := .later }
def TopCellsCardSaid : Prop := Claim7.holds Tryd.pinned (.plain (OpenSpec.ofChange topCellsSpec)) topCellsCard

/-- THE TIED CARD OF 'caissontop.TopCounter'. -/
def topCounterCard : Claim7 := { stood := { row := topCounterRow, standIns := [], harness := (true, "8b1fa637f774f8705bfc54089f0e78fd697f007cde47b3beb75a3ad78cbba446"), looks := false }, kinds := [], alts := [], laidByText := true, laidKinds := [.data, .data], laidTests := true, laidLooks := .later }
def TopCounterCardSaid : Prop := Claim7.holds Tryd.pinned (.plain (OpenSpec.ofChange topCounterSpec)) topCounterCard

/-- THE SECOND FORM's CARD OF 'caissontop.TopCells'. -/
def topCellsUptoCard : Claim7 := { stood := { row := topCellsUptoRow, standIns := [], harness := (true, "8b1fa637f774f8705bfc54089f0e78fd697f007cde47b3beb75a3ad78cbba446"), looks := false }, kinds := [], alts := [], laidByText := true, laidKinds := [.data, .data], laidTests := true, laidLooks := .later }
def TopCellsUptoCardSaid : Prop := Claim7.holds Tryd.pinned (.plain (OpenSpec.upto topCellsSpec)) topCellsUptoCard

/-- THE SECOND FORM's CARD OF 'caissontop.TopCounter'. -/
def topCounterUptoCard : Claim7 := { stood := { row := topCounterUptoRow, standIns := [], harness := (true, "8b1fa637f774f8705bfc54089f0e78fd697f007cde47b3beb75a3ad78cbba446"), looks := false }, kinds := [], alts := [], laidByText := true, laidKinds := [.data, .data], laidTests := true, laidLooks := .later }
def TopCounterUptoCardSaid : Prop := Claim7.holds Tryd.pinned (.plain (OpenSpec.upto topCounterSpec)) topCounterUptoCard
end Rows
end Go.Proofs.YtcdgcaljlmondaaDoor
