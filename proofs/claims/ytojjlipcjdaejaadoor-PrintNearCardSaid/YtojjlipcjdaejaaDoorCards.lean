/-
  DERIVED. GIVEN WITH THE SEED: THE CARDS: each row of YtojjlipcjdaejaaDoorRows.lean that lists a variable, with what it lists TIED to the program's text (the seventh form; the later family's looks); each row that meets fmt, with fmt's text TOLD by the authors' own Lean function (tested against real Go, not proved from fmt's source: count such statements apart). THE CARD IS WHAT COUNTS. Prove the row's statement (the work); the ties are given (YtojjlipcjdaejaaDoorTie.lean); close each card by the builder's one call (the guide's Derived/Test/ToyasCard.lean, 'card_holds'). Laid BY PROGRAM, IN A SANDBOX (cutbox-door.mjs). By AI agents, Wed Nov 11 2026. No macro, syntax, notation, axiom, sorry.
-/
import Derived.Test.YtojjlipcjdaejaaDoorRows
import GoSem.ClaimSeven
namespace Go.Proofs.YtojjlipcjdaejaaDoor
namespace Rows

/-- THE TIED CARD OF 'mintagelaw11.PrintNear'. -/
def printNearCard : Claim7 := { stood := { row := printNearRow, standIns := [], harness := (true, "4d8c2d083c2243899047abc51c65c1d128e0b0240e7c5ec3cc3fb8c9ccae1ef8"), looks := false }, kinds := [], alts := [], laidByText := true, laidKinds := [.data, .data, .data], laidTests := true, laidLooks := .later }
def PrintNearCardSaid : Prop := Claim7.holds Tryd.pinned (.plain (OpenSpec.ofChange printNearSpec)) printNearCard

/-- THE TIED CARD OF 'mintagelaw11.PrintSigns'. -/
def printSignsCard : Claim7 := { stood := { row := printSignsRow, standIns := [], harness := (true, "4d8c2d083c2243899047abc51c65c1d128e0b0240e7c5ec3cc3fb8c9ccae1ef8"), looks := false }, kinds := [], alts := [], laidByText := true, laidKinds := [.data, .data, .data], laidTests := true, laidLooks := .later }
def PrintSignsCardSaid : Prop := Claim7.holds Tryd.pinned (.plain (OpenSpec.ofChange printSignsSpec)) printSignsCard

/-- THE SECOND FORM's CARD OF 'mintagelaw11.PrintNear'. -/
def printNearUptoCard : Claim7 := { stood := { row := printNearUptoRow, standIns := [], harness := (true, "4d8c2d083c2243899047abc51c65c1d128e0b0240e7c5ec3cc3fb8c9ccae1ef8"), looks := false }, kinds := [], alts := [], laidByText := true, laidKinds := [.data, .data, .data], laidTests := true, laidLooks := .later }
def PrintNearUptoCardSaid : Prop := Claim7.holds Tryd.pinned (.plain (OpenSpec.upto printNearSpec)) printNearUptoCard

/-- THE SECOND FORM's CARD OF 'mintagelaw11.PrintSigns'. -/
def printSignsUptoCard : Claim7 := { stood := { row := printSignsUptoRow, standIns := [], harness := (true, "4d8c2d083c2243899047abc51c65c1d128e0b0240e7c5ec3cc3fb8c9ccae1ef8"), looks := false }, kinds := [], alts := [], laidByText := true, laidKinds := [.data, .data, .data], laidTests := true, laidLooks := .later }
def PrintSignsUptoCardSaid : Prop := Claim7.holds Tryd.pinned (.plain (OpenSpec.upto printSignsSpec)) printSignsUptoCard
end Rows
end Go.Proofs.YtojjlipcjdaejaaDoor
