/-
  DERIVED. GIVEN WITH THE SEED: THE CARDS: each row of YtojjlipcjdaejaaGreatDoorRows.lean that lists a variable, with what it lists TIED to the program's text (the seventh form; the later family's looks); each row that meets fmt, with fmt's text TOLD by the authors' own Lean function (tested against real Go, not proved from fmt's source: count such statements apart). THE CARD IS WHAT COUNTS. Prove the row's statement (the work); the ties are given (YtojjlipcjdaejaaGreatDoorTie.lean); close each card by the builder's one call (the guide's Derived/Test/ToyasCard.lean, 'card_holds'). Laid BY PROGRAM, IN A SANDBOX (cutbox-door.mjs). By AI agents, Wed Nov 11 2026. No macro, syntax, notation, axiom, sorry.
-/
import Derived.Test.YtojjlipcjdaejaaGreatDoorRows
import GoSem.ClaimSeven
namespace Go.Proofs.YtojjlipcjdaejaaGreatDoor
namespace Rows

/-- THE TIED CARD OF 'mintagelaw11.PrintShortest'. -/
def printShortestCard : Claim7 := { stood := { row := printShortestRow, standIns := [], harness := (true, "13336923d06779a1b06a61de05eaa8b51960acdda1757ff764ef833d91f302a3"), looks := false }, kinds := [], alts := [], laidByText := true, laidKinds := [.data, .data, .data], laidTests := true, laidLooks := .later }
def PrintShortestCardSaid : Prop := Claim7.holds Tryz.pinned (.plain (OpenSpec.ofChange printShortestSpec)) printShortestCard

/-- THE TIED CARD OF 'mintagelaw11.PrintFixed'. -/
def printFixedCard : Claim7 := { stood := { row := printFixedRow, standIns := [], harness := (true, "13336923d06779a1b06a61de05eaa8b51960acdda1757ff764ef833d91f302a3"), looks := false }, kinds := [], alts := [], laidByText := true, laidKinds := [.data, .data, .data], laidTests := true, laidLooks := .later }
def PrintFixedCardSaid : Prop := Claim7.holds Tryz.pinned (.plain (OpenSpec.ofChange printFixedSpec)) printFixedCard

/-- THE TIED CARD OF 'mintagelaw11.PrintExponent'. -/
def printExponentCard : Claim7 := { stood := { row := printExponentRow, standIns := [], harness := (true, "13336923d06779a1b06a61de05eaa8b51960acdda1757ff764ef833d91f302a3"), looks := false }, kinds := [], alts := [], laidByText := true, laidKinds := [.data, .data, .data], laidTests := true, laidLooks := .later }
def PrintExponentCardSaid : Prop := Claim7.holds Tryz.pinned (.plain (OpenSpec.ofChange printExponentSpec)) printExponentCard

/-- THE SECOND FORM's CARD OF 'mintagelaw11.PrintShortest'. -/
def printShortestUptoCard : Claim7 := { stood := { row := printShortestUptoRow, standIns := [], harness := (true, "13336923d06779a1b06a61de05eaa8b51960acdda1757ff764ef833d91f302a3"), looks := false }, kinds := [], alts := [], laidByText := true, laidKinds := [.data, .data, .data], laidTests := true, laidLooks := .later }
def PrintShortestUptoCardSaid : Prop := Claim7.holds Tryz.pinned (.plain (OpenSpec.upto printShortestSpec)) printShortestUptoCard

/-- THE SECOND FORM's CARD OF 'mintagelaw11.PrintFixed'. -/
def printFixedUptoCard : Claim7 := { stood := { row := printFixedUptoRow, standIns := [], harness := (true, "13336923d06779a1b06a61de05eaa8b51960acdda1757ff764ef833d91f302a3"), looks := false }, kinds := [], alts := [], laidByText := true, laidKinds := [.data, .data, .data], laidTests := true, laidLooks := .later }
def PrintFixedUptoCardSaid : Prop := Claim7.holds Tryz.pinned (.plain (OpenSpec.upto printFixedSpec)) printFixedUptoCard

/-- THE SECOND FORM's CARD OF 'mintagelaw11.PrintExponent'. -/
def printExponentUptoCard : Claim7 := { stood := { row := printExponentUptoRow, standIns := [], harness := (true, "13336923d06779a1b06a61de05eaa8b51960acdda1757ff764ef833d91f302a3"), looks := false }, kinds := [], alts := [], laidByText := true, laidKinds := [.data, .data, .data], laidTests := true, laidLooks := .later }
def PrintExponentUptoCardSaid : Prop := Claim7.holds Tryz.pinned (.plain (OpenSpec.upto printExponentSpec)) printExponentUptoCard
end Rows
end Go.Proofs.YtojjlipcjdaejaaGreatDoor
