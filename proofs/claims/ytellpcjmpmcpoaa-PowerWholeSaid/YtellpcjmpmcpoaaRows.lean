/-
  No cell of these rows narrows 'for every input' (looked for: loops, veiled, ifaces, maps, wideKeys, modest, calm, conditions, laid).
  DERIVED. THE GIVEN ROWS OF THIS SEAT. 6 by the template 'for every input the law returns true; each argument reads behind the call as it read before'; 0 by the template 'total and deterministic' (their statements: YtellpcjmpmcpoaaTotals.lean).
  GIVEN WITH THE SEED: the statements are not yours to turn. If you find one false, say at which input.
  Laid BY PROGRAM, IN A SANDBOX (cutbox-rows.mjs): the forced cells as the released guide's own fill.sh prints them over the translation 445c2f47bc30b916… (all of the seat's roots in one cut). By AI agents, Wed Nov 11 2026. No macro, syntax, notation, axiom, sorry.
-/
import Derived.Test.YtellpcjmpmcpoaaChecked
import GoSem.Claim
import GoSem.ClaimJoined
import GoSem.ClaimMapViews
import Derived.JoinedTies
import Derived.KernelRfl
namespace Go.Proofs.Ytellpcjmpmcpoaa
/- THE CELL 'sum', in the pinned program and in every row, IS THE sha256 OF THE DUMP (.gsa) THAT YtellpcjmpmcpoaaProg.lean LOADS. Nothing in Lean hashes anything: it is a label: what it is worth is what the hold of that sum in a sandbox is worth. -/
noncomputable def Try.pinned : Pinned := { name := "ytellpcjmpmcpoaa", sum := "445c2f47bc30b91617a15f63f7bd63ad0de2f7b26b066dee087598c4c70e5e91", checked := Try.checked }
namespace Rows
def none {H : Type} : Left H := { results := [], args := [] }

/-- 'mintagelaw06.PowerSteps': WHATEVER THE INPUT: true; the input reads as it did. -/
def powerStepsSpec : ChangeSpec := { name := "powerSteps", fn := fun _ => fun
  | [d] => { results := [.lit (.bool true)], args := [d] }
  | _ => none }
def powerStepsRow : OpenClaim := { program := "ytellpcjmpmcpoaa", sum := "445c2f47bc30b91617a15f63f7bd63ad0de2f7b26b066dee087598c4c70e5e91", func := "mintage/mintagelaw06.PowerSteps", spec := "powerSteps", inPlace := ["math/bits.Add64", "math/bits.Sub64"], unfollowed := true, recurses := true, named := ["math/bits.divideError", "math/bits.overflowError"], apart := false }
def PowerStepsSaid : Prop := powerStepsRow.holds Try.pinned (OpenSpec.ofChange powerStepsSpec)

/-- ITS FALSE NEIGHBOUR: 'it returns false'. Refute it at one input. -/
def powerStepsWrong : ChangeSpec := { name := "powerSteps", fn := fun _ => fun
  | [d] => { results := [.lit (.bool false)], args := [d] }
  | _ => none }
def PowerStepsWrongFalsely : Prop := powerStepsRow.holds Try.pinned (OpenSpec.ofChange powerStepsWrong)

/-- 'mintagelaw06.PowerEntries': WHATEVER THE INPUT: true; the input reads as it did. -/
def powerEntriesSpec : ChangeSpec := { name := "powerEntries", fn := fun _ => fun
  | [d1, d2] => { results := [.lit (.bool true)], args := [d1, d2] }
  | _ => none }
def powerEntriesRow : OpenClaim := { program := "ytellpcjmpmcpoaa", sum := "445c2f47bc30b91617a15f63f7bd63ad0de2f7b26b066dee087598c4c70e5e91", func := "mintage/mintagelaw06.PowerEntries", spec := "powerEntries", inPlace := ["math/bits.Add64", "math/bits.Sub64"], unfollowed := true, recurses := true, named := ["math/bits.divideError", "math/bits.overflowError"], apart := false }
def PowerEntriesSaid : Prop := powerEntriesRow.holds Try.pinned (OpenSpec.ofChange powerEntriesSpec)

/-- ITS FALSE NEIGHBOUR: 'it returns false'. Refute it at one input. -/
def powerEntriesWrong : ChangeSpec := { name := "powerEntries", fn := fun _ => fun
  | [d1, d2] => { results := [.lit (.bool false)], args := [d1, d2] }
  | _ => none }
def PowerEntriesWrongFalsely : Prop := powerEntriesRow.holds Try.pinned (OpenSpec.ofChange powerEntriesWrong)

/-- 'mintagelaw06.PowerBounds': WHATEVER THE INPUT: true; the input reads as it did. -/
def powerBoundsSpec : ChangeSpec := { name := "powerBounds", fn := fun _ => fun
  | [d] => { results := [.lit (.bool true)], args := [d] }
  | _ => none }
def powerBoundsRow : OpenClaim := { program := "ytellpcjmpmcpoaa", sum := "445c2f47bc30b91617a15f63f7bd63ad0de2f7b26b066dee087598c4c70e5e91", func := "mintage/mintagelaw06.PowerBounds", spec := "powerBounds", inPlace := ["math/bits.Add64", "math/bits.Sub64"], unfollowed := true, recurses := true, named := ["math/bits.divideError", "math/bits.overflowError"], apart := false }
def PowerBoundsSaid : Prop := powerBoundsRow.holds Try.pinned (OpenSpec.ofChange powerBoundsSpec)

/-- ITS FALSE NEIGHBOUR: 'it returns false'. Refute it at one input. -/
def powerBoundsWrong : ChangeSpec := { name := "powerBounds", fn := fun _ => fun
  | [d] => { results := [.lit (.bool false)], args := [d] }
  | _ => none }
def PowerBoundsWrongFalsely : Prop := powerBoundsRow.holds Try.pinned (OpenSpec.ofChange powerBoundsWrong)

/-- 'mintagelaw06.PowerPlaces': WHATEVER THE INPUT: true; the input reads as it did. -/
def powerPlacesSpec : ChangeSpec := { name := "powerPlaces", fn := fun _ => fun
  | [d1, d2] => { results := [.lit (.bool true)], args := [d1, d2] }
  | _ => none }
def powerPlacesRow : OpenClaim := { program := "ytellpcjmpmcpoaa", sum := "445c2f47bc30b91617a15f63f7bd63ad0de2f7b26b066dee087598c4c70e5e91", func := "mintage/mintagelaw06.PowerPlaces", spec := "powerPlaces", inPlace := ["math/bits.Add64", "math/bits.Sub64"], unfollowed := true, recurses := true, named := ["math/bits.divideError", "math/bits.overflowError"], apart := false }
def PowerPlacesSaid : Prop := powerPlacesRow.holds Try.pinned (OpenSpec.ofChange powerPlacesSpec)

/-- ITS FALSE NEIGHBOUR: 'it returns false'. Refute it at one input. -/
def powerPlacesWrong : ChangeSpec := { name := "powerPlaces", fn := fun _ => fun
  | [d1, d2] => { results := [.lit (.bool false)], args := [d1, d2] }
  | _ => none }
def PowerPlacesWrongFalsely : Prop := powerPlacesRow.holds Try.pinned (OpenSpec.ofChange powerPlacesWrong)

/-- 'mintagelaw06.PowerSegments': WHATEVER THE INPUT: true; the input reads as it did. -/
def powerSegmentsSpec : ChangeSpec := { name := "powerSegments", fn := fun _ => fun
  | [d] => { results := [.lit (.bool true)], args := [d] }
  | _ => none }
def powerSegmentsRow : OpenClaim := { program := "ytellpcjmpmcpoaa", sum := "445c2f47bc30b91617a15f63f7bd63ad0de2f7b26b066dee087598c4c70e5e91", func := "mintage/mintagelaw06.PowerSegments", spec := "powerSegments", inPlace := ["math/bits.Add64", "math/bits.Sub64"], unfollowed := true, recurses := true, named := ["math/bits.divideError", "math/bits.overflowError"], apart := false }
def PowerSegmentsSaid : Prop := powerSegmentsRow.holds Try.pinned (OpenSpec.ofChange powerSegmentsSpec)

/-- ITS FALSE NEIGHBOUR: 'it returns false'. Refute it at one input. -/
def powerSegmentsWrong : ChangeSpec := { name := "powerSegments", fn := fun _ => fun
  | [d] => { results := [.lit (.bool false)], args := [d] }
  | _ => none }
def PowerSegmentsWrongFalsely : Prop := powerSegmentsRow.holds Try.pinned (OpenSpec.ofChange powerSegmentsWrong)

/-- 'mintagelaw06.PowerWhole': WHATEVER THE INPUT: true; the input reads as it did. -/
def powerWholeSpec : ChangeSpec := { name := "powerWhole", fn := fun _ => fun
  | [] => { results := [.lit (.bool true)], args := [] }
  | _ => none }
def powerWholeRow : OpenClaim := { program := "ytellpcjmpmcpoaa", sum := "445c2f47bc30b91617a15f63f7bd63ad0de2f7b26b066dee087598c4c70e5e91", func := "mintage/mintagelaw06.PowerWhole", spec := "powerWhole", inPlace := ["math/bits.Add64", "math/bits.Sub64"], unfollowed := true, recurses := true, named := ["math/bits.divideError", "math/bits.overflowError"], apart := false }
def PowerWholeSaid : Prop := powerWholeRow.holds Try.pinned (OpenSpec.ofChange powerWholeSpec)

/-- ITS FALSE NEIGHBOUR: 'it returns false'. Refute it at one input. -/
def powerWholeWrong : ChangeSpec := { name := "powerWhole", fn := fun _ => fun
  | [] => { results := [.lit (.bool false)], args := [] }
  | _ => none }
def PowerWholeWrongFalsely : Prop := powerWholeRow.holds Try.pinned (OpenSpec.ofChange powerWholeWrong)

/- THE SECOND FORM. 'bulk': how many values and letters a reading holds, each counted each time it is reached (what is shared counts as often as it is met; a slice's spare places count too). A statement '..UptoSaid' is the law's where the arguments, and the package variables that the reading takes, are together of bulk at most 1048576: NARROWER than '..Said'. Prove '..Said' where nothing that the law and all that it calls make is longer than what came in: it says more and counts as full. Else prove '..UptoSaid'. A law counts once. -/
mutual
def uptoBulk {H : Type} : DataW H → Nat
  | .lit (.string bytes) => bytes.length + 1
  | .lit _ => 1
  | .nil => 1
  | .ptr d => uptoBulk d + 1
  | .slice elems spare => uptoBulkAll elems + uptoBulkAll spare + 1
  | .agg parts => uptoBulkAll parts + 1
  | .iface _ d => uptoBulk d + 1
  | .map entries => uptoBulkEntries entries + 1
  | .held _ => 1
def uptoBulkAll {H : Type} : List (DataW H) → Nat
  | [] => 0
  | d :: r => uptoBulk d + uptoBulkAll r
def uptoBulkEntries {H : Type} : List (Lit × DataW H) → Nat
  | [] => 0
  | x :: r => uptoBulkEntry x + uptoBulkEntries r
def uptoBulkEntry {H : Type} : Lit × DataW H → Nat
  | (.string bytes, d) => bytes.length + uptoBulk d + 1
  | (_, d) => uptoBulk d + 1
 end
def uptoSmall : (H : Type) → List (DataW H) → Bool := fun _ ds => decide (uptoBulkAll ds ≤ 1048576)
def OpenSpec.upto (s : _root_.Go.ChangeSpec) : _root_.Go.OpenSpec := { _root_.Go.OpenSpec.ofChange s with cond := some uptoSmall }

/-- 'mintagelaw06.PowerSteps', WHERE WHAT IT READS IS OF BULK AT MOST 1048576: true; the input reads as it did. -/
def powerStepsUptoRow : OpenClaim := { program := "ytellpcjmpmcpoaa", sum := "445c2f47bc30b91617a15f63f7bd63ad0de2f7b26b066dee087598c4c70e5e91", func := "mintage/mintagelaw06.PowerSteps", spec := "powerSteps", inPlace := ["math/bits.Add64", "math/bits.Sub64"], unfollowed := true, recurses := true, named := ["math/bits.divideError", "math/bits.overflowError"], apart := false, narrowed := true }
def PowerStepsUptoSaid : Prop := powerStepsUptoRow.holds Try.pinned (OpenSpec.upto powerStepsSpec)

/-- 'mintagelaw06.PowerEntries', WHERE WHAT IT READS IS OF BULK AT MOST 1048576: true; the input reads as it did. -/
def powerEntriesUptoRow : OpenClaim := { program := "ytellpcjmpmcpoaa", sum := "445c2f47bc30b91617a15f63f7bd63ad0de2f7b26b066dee087598c4c70e5e91", func := "mintage/mintagelaw06.PowerEntries", spec := "powerEntries", inPlace := ["math/bits.Add64", "math/bits.Sub64"], unfollowed := true, recurses := true, named := ["math/bits.divideError", "math/bits.overflowError"], apart := false, narrowed := true }
def PowerEntriesUptoSaid : Prop := powerEntriesUptoRow.holds Try.pinned (OpenSpec.upto powerEntriesSpec)

/-- 'mintagelaw06.PowerBounds', WHERE WHAT IT READS IS OF BULK AT MOST 1048576: true; the input reads as it did. -/
def powerBoundsUptoRow : OpenClaim := { program := "ytellpcjmpmcpoaa", sum := "445c2f47bc30b91617a15f63f7bd63ad0de2f7b26b066dee087598c4c70e5e91", func := "mintage/mintagelaw06.PowerBounds", spec := "powerBounds", inPlace := ["math/bits.Add64", "math/bits.Sub64"], unfollowed := true, recurses := true, named := ["math/bits.divideError", "math/bits.overflowError"], apart := false, narrowed := true }
def PowerBoundsUptoSaid : Prop := powerBoundsUptoRow.holds Try.pinned (OpenSpec.upto powerBoundsSpec)

/-- 'mintagelaw06.PowerPlaces', WHERE WHAT IT READS IS OF BULK AT MOST 1048576: true; the input reads as it did. -/
def powerPlacesUptoRow : OpenClaim := { program := "ytellpcjmpmcpoaa", sum := "445c2f47bc30b91617a15f63f7bd63ad0de2f7b26b066dee087598c4c70e5e91", func := "mintage/mintagelaw06.PowerPlaces", spec := "powerPlaces", inPlace := ["math/bits.Add64", "math/bits.Sub64"], unfollowed := true, recurses := true, named := ["math/bits.divideError", "math/bits.overflowError"], apart := false, narrowed := true }
def PowerPlacesUptoSaid : Prop := powerPlacesUptoRow.holds Try.pinned (OpenSpec.upto powerPlacesSpec)

/-- 'mintagelaw06.PowerSegments', WHERE WHAT IT READS IS OF BULK AT MOST 1048576: true; the input reads as it did. -/
def powerSegmentsUptoRow : OpenClaim := { program := "ytellpcjmpmcpoaa", sum := "445c2f47bc30b91617a15f63f7bd63ad0de2f7b26b066dee087598c4c70e5e91", func := "mintage/mintagelaw06.PowerSegments", spec := "powerSegments", inPlace := ["math/bits.Add64", "math/bits.Sub64"], unfollowed := true, recurses := true, named := ["math/bits.divideError", "math/bits.overflowError"], apart := false, narrowed := true }
def PowerSegmentsUptoSaid : Prop := powerSegmentsUptoRow.holds Try.pinned (OpenSpec.upto powerSegmentsSpec)

/-- 'mintagelaw06.PowerWhole', WHERE WHAT IT READS IS OF BULK AT MOST 1048576: true; the input reads as it did. -/
def powerWholeUptoRow : OpenClaim := { program := "ytellpcjmpmcpoaa", sum := "445c2f47bc30b91617a15f63f7bd63ad0de2f7b26b066dee087598c4c70e5e91", func := "mintage/mintagelaw06.PowerWhole", spec := "powerWhole", inPlace := ["math/bits.Add64", "math/bits.Sub64"], unfollowed := true, recurses := true, named := ["math/bits.divideError", "math/bits.overflowError"], apart := false, narrowed := true }
def PowerWholeUptoSaid : Prop := powerWholeUptoRow.holds Try.pinned (OpenSpec.upto powerWholeSpec)

end Rows
end Go.Proofs.Ytellpcjmpmcpoaa
