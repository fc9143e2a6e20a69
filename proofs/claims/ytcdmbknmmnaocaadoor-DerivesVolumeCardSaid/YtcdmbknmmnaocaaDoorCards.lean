/-
  DERIVED. GIVEN WITH THE SEED: THE CARDS: each row of YtcdmbknmmnaocaaDoorRows.lean that lists a variable, with what it lists TIED to the program's text (the seventh form; the later family's looks); each row that meets fmt, with fmt's text TOLD by the authors' own Lean function (tested against real Go, not proved from fmt's source: count such statements apart). THE CARD IS WHAT COUNTS. Prove the row's statement (the work); the ties are given (YtcdmbknmmnaocaaDoorTie.lean); close each card by the builder's one call (the guide's Derived/Test/ToyasCard.lean, 'card_holds'). Laid BY PROGRAM, IN A SANDBOX (cutbox-door.mjs). By AI agents, Wed Nov 11 2026. No macro, syntax, notation, axiom, sorry.
-/
import Derived.Test.YtcdmbknmmnaocaaDoorRows
import GoSem.ClaimSeven
namespace Go.Proofs.YtcdmbknmmnaocaaDoor
namespace Rows

/-- THE TIED CARD OF 'caissonlaw04.DerivesExtract'. -/
def derivesExtractCard : Claim7 := { stood := { row := derivesExtractRow, standIns := [], harness := (true, "349b3e5041aad0b591697d81873b6ee882cb47c802d62d33c2608e4c1b0c9c73"), looks := false }, kinds := [], alts := [], laidByText := true, laidKinds := [.data, .data], laidTests := true, laidLooks := .later }
def DerivesExtractCardSaid : Prop := Claim7.holds Tryd.pinned (.plain (OpenSpec.ofChange derivesExtractSpec)) derivesExtractCard

/-- THE TIED CARD OF 'caissonlaw04.DerivesExpand'. -/
def derivesExpandCard : Claim7 := { stood := { row := derivesExpandRow, standIns := [], harness := (true, "349b3e5041aad0b591697d81873b6ee882cb47c802d62d33c2608e4c1b0c9c73"), looks := false }, kinds := [], alts := [], laidByText := true, laidKinds := [.data, .data], laidTests := true, laidLooks := .later }
def DerivesExpandCardSaid : Prop := Claim7.holds Tryd.pinned (.plain (OpenSpec.ofChange derivesExpandSpec)) derivesExpandCard

/-- THE TIED CARD OF 'caissonlaw04.DerivesPrefix'. -/
def derivesPrefixCard : Claim7 := { stood := { row := derivesPrefixRow, standIns := [], harness := (true, "349b3e5041aad0b591697d81873b6ee882cb47c802d62d33c2608e4c1b0c9c73"), looks := false }, kinds := [], alts := [], laidByText := true, laidKinds := [.data, .data], laidTests := true, laidLooks := .later }
def DerivesPrefixCardSaid : Prop := Claim7.holds Tryd.pinned (.plain (OpenSpec.ofChange derivesPrefixSpec)) derivesPrefixCard

/-- THE TIED CARD OF 'caissonlaw04.DerivesVolume'. -/
def derivesVolumeCard : Claim7 := { stood := { row := derivesVolumeRow, standIns := [], harness := (true, "349b3e5041aad0b591697d81873b6ee882cb47c802d62d33c2608e4c1b0c9c73"), looks := false }, kinds := [], alts := [], laidByText := true, laidKinds := [.data, .data], laidTests := true, laidLooks := .later }
def DerivesVolumeCardSaid : Prop := Claim7.holds Tryd.pinned (.plain (OpenSpec.ofChange derivesVolumeSpec)) derivesVolumeCard

/-- THE TIED CARD OF 'caissonlaw04.DerivesKnown'. -/
def derivesKnownCard : Claim7 := { stood := { row := derivesKnownRow, standIns := [], harness := (true, "349b3e5041aad0b591697d81873b6ee882cb47c802d62d33c2608e4c1b0c9c73"), looks := false }, kinds := [], alts := [], laidByText := true, laidKinds := [.data, .data], laidTests := true, laidLooks := .later }
def DerivesKnownCardSaid : Prop := Claim7.holds Tryd.pinned (.plain (OpenSpec.ofChange derivesKnownSpec)) derivesKnownCard

/-- THE SECOND FORM's CARD OF 'caissonlaw04.DerivesExtract'. -/
def derivesExtractUptoCard : Claim7 := { stood := { row := derivesExtractUptoRow, standIns := [], harness := (true, "349b3e5041aad0b591697d81873b6ee882cb47c802d62d33c2608e4c1b0c9c73"), looks := false }, kinds := [], alts := [], laidByText := true, laidKinds := [.data, .data], laidTests := true, laidLooks := .later }
def DerivesExtractUptoCardSaid : Prop := Claim7.holds Tryd.pinned (.plain (OpenSpec.upto derivesExtractSpec)) derivesExtractUptoCard

/-- THE SECOND FORM's CARD OF 'caissonlaw04.DerivesExpand'. -/
def derivesExpandUptoCard : Claim7 := { stood := { row := derivesExpandUptoRow, standIns := [], harness := (true, "349b3e5041aad0b591697d81873b6ee882cb47c802d62d33c2608e4c1b0c9c73"), looks := false }, kinds := [], alts := [], laidByText := true, laidKinds := [.data, .data], laidTests := true, laidLooks := .later }
def DerivesExpandUptoCardSaid : Prop := Claim7.holds Tryd.pinned (.plain (OpenSpec.upto derivesExpandSpec)) derivesExpandUptoCard

/-- THE SECOND FORM's CARD OF 'caissonlaw04.DerivesPrefix'. -/
def derivesPrefixUptoCard : Claim7 := { stood := { row := derivesPrefixUptoRow, standIns := [], harness := (true, "349b3e5041aad0b591697d81873b6ee882cb47c802d62d33c2608e4c1b0c9c73"), looks := false }, kinds := [], alts := [], laidByText := true, laidKinds := [.data, .data], laidTests := true, laidLooks := .later }
def DerivesPrefixUptoCardSaid : Prop := Claim7.holds Tryd.pinned (.plain (OpenSpec.upto derivesPrefixSpec)) derivesPrefixUptoCard

/-- THE SECOND FORM's CARD OF 'caissonlaw04.DerivesVolume'. -/
def derivesVolumeUptoCard : Claim7 := { stood := { row := derivesVolumeUptoRow, standIns := [], harness := (true, "349b3e5041aad0b591697d81873b6ee882cb47c802d62d33c2608e4c1b0c9c73"), looks := false }, kinds := [], alts := [], laidByText := true, laidKinds := [.data, .data], laidTests := true, laidLooks := .later }
def DerivesVolumeUptoCardSaid : Prop := Claim7.holds Tryd.pinned (.plain (OpenSpec.upto derivesVolumeSpec)) derivesVolumeUptoCard

/-- THE SECOND FORM's CARD OF 'caissonlaw04.DerivesKnown'. -/
def derivesKnownUptoCard : Claim7 := { stood := { row := derivesKnownUptoRow, standIns := [], harness := (true, "349b3e5041aad0b591697d81873b6ee882cb47c802d62d33c2608e4c1b0c9c73"), looks := false }, kinds := [], alts := [], laidByText := true, laidKinds := [.data, .data], laidTests := true, laidLooks := .later }
def DerivesKnownUptoCardSaid : Prop := Claim7.holds Tryd.pinned (.plain (OpenSpec.upto derivesKnownSpec)) derivesKnownUptoCard
end Rows
end Go.Proofs.YtcdmbknmmnaocaaDoor
