/-
  DERIVED. GIVEN WITH THE SEED: THE CARDS: each row of YtfomhfbmmjhljaaGreatDoorRows.lean that lists a variable, with what it lists TIED to the program's text (the seventh form; the later family's looks); each row that meets fmt, with fmt's text TOLD by the authors' own Lean function (tested against real Go, not proved from fmt's source: count such statements apart). THE CARD IS WHAT COUNTS. Prove the row's statement (the work); the ties are given (YtfomhfbmmjhljaaGreatDoorTie.lean); close each card by the builder's one call (the guide's Derived/Test/ToyasCard.lean, 'card_holds'). Laid BY PROGRAM, IN A SANDBOX (cutbox-door.mjs). By AI agents, Wed Nov 11 2026. No macro, syntax, notation, axiom, sorry.
-/
import Derived.Test.YtfomhfbmmjhljaaGreatDoorRows
import GoSem.ClaimSeven
namespace Go.Proofs.YtfomhfbmmjhljaaGreatDoor
namespace Rows

/-- THE TIED CARD OF 'mintagelaw11.PrintBack'. -/
def printBackCard : Claim7 := { stood := { row := printBackRow, standIns := [], harness := (true, "90749557cc2676de557e27788324fb47d29c84e3c78ce50d78b291104c6913d5"), looks := false }, kinds := [], alts := [], laidByText := true, laidKinds := [.data, .data, .data], laidTests := true, laidLooks := .later }
def PrintBackCardSaid : Prop := Claim7.holds Tryz.pinned (.plain (OpenSpec.ofChange printBackSpec)) printBackCard

/-- THE TIED CARD OF 'mintagelaw11.PrintEnds'. -/
def printEndsCard : Claim7 := { stood := { row := printEndsRow, standIns := [], harness := (true, "90749557cc2676de557e27788324fb47d29c84e3c78ce50d78b291104c6913d5"), looks := false }, kinds := [], alts := [], laidByText := true, laidKinds := [.data, .data, .data], laidTests := true, laidLooks := .later }
def PrintEndsCardSaid : Prop := Claim7.holds Tryz.pinned (.plain (OpenSpec.ofChange printEndsSpec)) printEndsCard

/-- THE SECOND FORM's CARD OF 'mintagelaw11.PrintBack'. -/
def printBackUptoCard : Claim7 := { stood := { row := printBackUptoRow, standIns := [], harness := (true, "90749557cc2676de557e27788324fb47d29c84e3c78ce50d78b291104c6913d5"), looks := false }, kinds := [], alts := [], laidByText := true, laidKinds := [.data, .data, .data], laidTests := true, laidLooks := .later }
def PrintBackUptoCardSaid : Prop := Claim7.holds Tryz.pinned (.plain (OpenSpec.upto printBackSpec)) printBackUptoCard

/-- THE SECOND FORM's CARD OF 'mintagelaw11.PrintEnds'. -/
def printEndsUptoCard : Claim7 := { stood := { row := printEndsUptoRow, standIns := [], harness := (true, "90749557cc2676de557e27788324fb47d29c84e3c78ce50d78b291104c6913d5"), looks := false }, kinds := [], alts := [], laidByText := true, laidKinds := [.data, .data, .data], laidTests := true, laidLooks := .later }
def PrintEndsUptoCardSaid : Prop := Claim7.holds Tryz.pinned (.plain (OpenSpec.upto printEndsSpec)) printEndsUptoCard
end Rows
end Go.Proofs.YtfomhfbmmjhljaaGreatDoor
