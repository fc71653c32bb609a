/-
  DERIVED. GIVEN WITH THE SEED: THE CARDS: each row of YtgjgahmhoflgcaaGreatDoorRows.lean that lists a variable, with what it lists TIED to the program's text (the seventh form; the later family's looks); each row that meets fmt, with fmt's text TOLD by the authors' own Lean function (tested against real Go, not proved from fmt's source: count such statements apart). THE CARD IS WHAT COUNTS. Prove the row's statement (the work); the ties are given (YtgjgahmhoflgcaaGreatDoorTie.lean); close each card by the builder's one call (the guide's Derived/Test/ToyasCard.lean, 'card_holds'). Laid BY PROGRAM, IN A SANDBOX (cutbox-door.mjs). By AI agents, Wed Nov 11 2026. No macro, syntax, notation, axiom, sorry.
-/
import Derived.Test.YtgjgahmhoflgcaaGreatDoorRows
import GoSem.ClaimSeven
namespace Go.Proofs.YtgjgahmhoflgcaaGreatDoor
namespace Rows

/-- THE TIED CARD OF 'mintagelaw21.CellWrites'. -/
def cellWritesCard : Claim7 := { stood := { row := cellWritesRow, standIns := [], harness := (true, "16eed1ad944bbbe9ad4eeed6d792fe9a2d039f30629d9090c1ebd342ca523480"), looks := true }, kinds := [], alts := [], laidByText := true, laidKinds := [.data, .data, .data], laidTests := true, laidLooks := .later }
def CellWritesCardSaid : Prop := Claim7.holds Tryz.pinned (.plain (OpenSpec.ofChange cellWritesSpec)) cellWritesCard

/-- THE TIED CARD OF 'mintagelaw21.CellBack'. -/
def cellBackCard : Claim7 := { stood := { row := cellBackRow, standIns := [], harness := (true, "16eed1ad944bbbe9ad4eeed6d792fe9a2d039f30629d9090c1ebd342ca523480"), looks := true }, kinds := [], alts := [], laidByText := true, laidKinds := [.data, .data, .data], laidTests := true, laidLooks := .later }
def CellBackCardSaid : Prop := Claim7.holds Tryz.pinned (.plain (OpenSpec.ofChange cellBackSpec)) cellBackCard

/-- THE TIED CARD OF 'mintagelaw21.CellReads'. -/
def cellReadsCard : Claim7 := { stood := { row := cellReadsRow, standIns := [], harness := (true, "16eed1ad944bbbe9ad4eeed6d792fe9a2d039f30629d9090c1ebd342ca523480"), looks := true }, kinds := [], alts := [], laidByText := true, laidKinds := [.data, .data, .data], laidTests := true, laidLooks := .later }
def CellReadsCardSaid : Prop := Claim7.holds Tryz.pinned (.plain (OpenSpec.ofChange cellReadsSpec)) cellReadsCard

/-- THE TIED CARD OF 'mintagelaw21.CellNeeds'. -/
def cellNeedsCard : Claim7 := { stood := { row := cellNeedsRow, standIns := [], harness := (true, "16eed1ad944bbbe9ad4eeed6d792fe9a2d039f30629d9090c1ebd342ca523480"), looks := true }, kinds := [], alts := [], laidByText := true, laidKinds := [.data, .data, .data], laidTests := true, laidLooks := .later }
def CellNeedsCardSaid : Prop := Claim7.holds Tryz.pinned (.plain (OpenSpec.ofChange cellNeedsSpec)) cellNeedsCard

/-- THE TIED CARD OF 'mintagelaw21.CellNulls'. -/
def cellNullsCard : Claim7 := { stood := { row := cellNullsRow, standIns := [], harness := (true, "16eed1ad944bbbe9ad4eeed6d792fe9a2d039f30629d9090c1ebd342ca523480"), looks := true }, kinds := [], alts := [], laidByText := true, laidKinds := [.data, .data, .data], laidTests := true, laidLooks := .later }
def CellNullsCardSaid : Prop := Claim7.holds Tryz.pinned (.plain (OpenSpec.ofChange cellNullsSpec)) cellNullsCard

/-- THE SECOND FORM's CARD OF 'mintagelaw21.CellWrites'. -/
def cellWritesUptoCard : Claim7 := { stood := { row := cellWritesUptoRow, standIns := [], harness := (true, "16eed1ad944bbbe9ad4eeed6d792fe9a2d039f30629d9090c1ebd342ca523480"), looks := true }, kinds := [], alts := [], laidByText := true, laidKinds := [.data, .data, .data], laidTests := true, laidLooks := .later }
def CellWritesUptoCardSaid : Prop := Claim7.holds Tryz.pinned (.plain (OpenSpec.upto cellWritesSpec)) cellWritesUptoCard

/-- THE SECOND FORM's CARD OF 'mintagelaw21.CellBack'. -/
def cellBackUptoCard : Claim7 := { stood := { row := cellBackUptoRow, standIns := [], harness := (true, "16eed1ad944bbbe9ad4eeed6d792fe9a2d039f30629d9090c1ebd342ca523480"), looks := true }, kinds := [], alts := [], laidByText := true, laidKinds := [.data, .data, .data], laidTests := true, laidLooks := .later }
def CellBackUptoCardSaid : Prop := Claim7.holds Tryz.pinned (.plain (OpenSpec.upto cellBackSpec)) cellBackUptoCard

/-- THE SECOND FORM's CARD OF 'mintagelaw21.CellReads'. -/
def cellReadsUptoCard : Claim7 := { stood := { row := cellReadsUptoRow, standIns := [], harness := (true, "16eed1ad944bbbe9ad4eeed6d792fe9a2d039f30629d9090c1ebd342ca523480"), looks := true }, kinds := [], alts := [], laidByText := true, laidKinds := [.data, .data, .data], laidTests := true, laidLooks := .later }
def CellReadsUptoCardSaid : Prop := Claim7.holds Tryz.pinned (.plain (OpenSpec.upto cellReadsSpec)) cellReadsUptoCard

/-- THE SECOND FORM's CARD OF 'mintagelaw21.CellNeeds'. -/
def cellNeedsUptoCard : Claim7 := { stood := { row := cellNeedsUptoRow, standIns := [], harness := (true, "16eed1ad944bbbe9ad4eeed6d792fe9a2d039f30629d9090c1ebd342ca523480"), looks := true }, kinds := [], alts := [], laidByText := true, laidKinds := [.data, .data, .data], laidTests := true, laidLooks := .later }
def CellNeedsUptoCardSaid : Prop := Claim7.holds Tryz.pinned (.plain (OpenSpec.upto cellNeedsSpec)) cellNeedsUptoCard

/-- THE SECOND FORM's CARD OF 'mintagelaw21.CellNulls'. -/
def cellNullsUptoCard : Claim7 := { stood := { row := cellNullsUptoRow, standIns := [], harness := (true, "16eed1ad944bbbe9ad4eeed6d792fe9a2d039f30629d9090c1ebd342ca523480"), looks := true }, kinds := [], alts := [], laidByText := true, laidKinds := [.data, .data, .data], laidTests := true, laidLooks := .later }
def CellNullsUptoCardSaid : Prop := Claim7.holds Tryz.pinned (.plain (OpenSpec.upto cellNullsSpec)) cellNullsUptoCard
end Rows
end Go.Proofs.YtgjgahmhoflgcaaGreatDoor
