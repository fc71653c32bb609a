/-
  No cell of these rows narrows 'for every input' (looked for: loops, veiled, ifaces, maps, wideKeys, modest, calm, conditions, laid).
  DERIVED. THE GIVEN ROWS OF THIS SEAT. 6 by the template 'for every input the law returns true; each argument reads behind the call as it read before'; 0 by the template 'total and deterministic' (their statements: YtjkaahnadaapoaaTotals.lean).
  GIVEN WITH THE SEED: the statements are not yours to turn. If you find one false, say at which input.
  Laid BY PROGRAM, IN A SANDBOX (cutbox-rows.mjs): the forced cells as the released guide's own fill.sh prints them over the translation 16b66569241b3677… (all of the seat's roots in one cut). By AI agents, Wed Nov 11 2026. No macro, syntax, notation, axiom, sorry.
-/
import Derived.Test.YtjkaahnadaapoaaChecked
import GoSem.Claim
import GoSem.ClaimJoined
import GoSem.ClaimMapViews
import Derived.JoinedTies
import Derived.KernelRfl
namespace Go.Proofs.Ytjkaahnadaapoaa
/- THE CELL 'sum', in the pinned program and in every row, IS THE sha256 OF THE DUMP (.gsa) THAT YtjkaahnadaapoaaProg.lean LOADS. Nothing in Lean hashes anything: it is a label: what it is worth is what the hold of that sum in a sandbox is worth. -/
noncomputable def Try.pinned : Pinned := { name := "ytjkaahnadaapoaa", sum := "16b66569241b3677cad0b0be645c183f62ef925e09ce981fdb7be530cbfa8a56", checked := Try.checked }
namespace Rows
def none {H : Type} : Left H := { results := [], args := [] }

/-- 'mintagelaw08.ScanReads': WHATEVER THE INPUT: true; the input reads as it did. -/
def scanReadsSpec : ChangeSpec := { name := "scanReads", fn := fun _ => fun
  | [d] => { results := [.lit (.bool true)], args := [d] }
  | _ => none }
def scanReadsRow : OpenClaim := { program := "ytjkaahnadaapoaa", sum := "16b66569241b3677cad0b0be645c183f62ef925e09ce981fdb7be530cbfa8a56", func := "mintage/mintagelaw08.ScanReads", spec := "scanReads", apart := false }
def ScanReadsSaid : Prop := scanReadsRow.holds Try.pinned (OpenSpec.ofChange scanReadsSpec)

/-- ITS FALSE NEIGHBOUR: 'it returns false'. Refute it at one input. -/
def scanReadsWrong : ChangeSpec := { name := "scanReads", fn := fun _ => fun
  | [d] => { results := [.lit (.bool false)], args := [d] }
  | _ => none }
def ScanReadsWrongFalsely : Prop := scanReadsRow.holds Try.pinned (OpenSpec.ofChange scanReadsWrong)

/-- 'mintagelaw08.ScanForms': WHATEVER THE INPUT: true; the input reads as it did. -/
def scanFormsSpec : ChangeSpec := { name := "scanForms", fn := fun _ => fun
  | [d1, d2] => { results := [.lit (.bool true)], args := [d1, d2] }
  | _ => none }
def scanFormsRow : OpenClaim := { program := "ytjkaahnadaapoaa", sum := "16b66569241b3677cad0b0be645c183f62ef925e09ce981fdb7be530cbfa8a56", func := "mintage/mintagelaw08.ScanForms", spec := "scanForms", apart := false }
def ScanFormsSaid : Prop := scanFormsRow.holds Try.pinned (OpenSpec.ofChange scanFormsSpec)

/-- ITS FALSE NEIGHBOUR: 'it returns false'. Refute it at one input. -/
def scanFormsWrong : ChangeSpec := { name := "scanForms", fn := fun _ => fun
  | [d1, d2] => { results := [.lit (.bool false)], args := [d1, d2] }
  | _ => none }
def ScanFormsWrongFalsely : Prop := scanFormsRow.holds Try.pinned (OpenSpec.ofChange scanFormsWrong)

/-- 'mintagelaw08.ScanPlaces': WHATEVER THE INPUT: true; the input reads as it did. -/
def scanPlacesSpec : ChangeSpec := { name := "scanPlaces", fn := fun _ => fun
  | [d1, d2] => { results := [.lit (.bool true)], args := [d1, d2] }
  | _ => none }
def scanPlacesRow : OpenClaim := { program := "ytjkaahnadaapoaa", sum := "16b66569241b3677cad0b0be645c183f62ef925e09ce981fdb7be530cbfa8a56", func := "mintage/mintagelaw08.ScanPlaces", spec := "scanPlaces", apart := false }
def ScanPlacesSaid : Prop := scanPlacesRow.holds Try.pinned (OpenSpec.ofChange scanPlacesSpec)

/-- ITS FALSE NEIGHBOUR: 'it returns false'. Refute it at one input. -/
def scanPlacesWrong : ChangeSpec := { name := "scanPlaces", fn := fun _ => fun
  | [d1, d2] => { results := [.lit (.bool false)], args := [d1, d2] }
  | _ => none }
def ScanPlacesWrongFalsely : Prop := scanPlacesRow.holds Try.pinned (OpenSpec.ofChange scanPlacesWrong)

/-- 'mintagelaw08.ScanEnds': WHATEVER THE INPUT: true; the input reads as it did. -/
def scanEndsSpec : ChangeSpec := { name := "scanEnds", fn := fun _ => fun
  | [] => { results := [.lit (.bool true)], args := [] }
  | _ => none }
def scanEndsRow : OpenClaim := { program := "ytjkaahnadaapoaa", sum := "16b66569241b3677cad0b0be645c183f62ef925e09ce981fdb7be530cbfa8a56", func := "mintage/mintagelaw08.ScanEnds", spec := "scanEnds", apart := false }
def ScanEndsSaid : Prop := scanEndsRow.holds Try.pinned (OpenSpec.ofChange scanEndsSpec)

/-- ITS FALSE NEIGHBOUR: 'it returns false'. Refute it at one input. -/
def scanEndsWrong : ChangeSpec := { name := "scanEnds", fn := fun _ => fun
  | [] => { results := [.lit (.bool false)], args := [] }
  | _ => none }
def ScanEndsWrongFalsely : Prop := scanEndsRow.holds Try.pinned (OpenSpec.ofChange scanEndsWrong)

/-- 'mintagelaw08.ScanExact': WHATEVER THE INPUT: true; the input reads as it did. -/
def scanExactSpec : ChangeSpec := { name := "scanExact", fn := fun _ => fun
  | [d] => { results := [.lit (.bool true)], args := [d] }
  | _ => none }
def scanExactRow : OpenClaim := { program := "ytjkaahnadaapoaa", sum := "16b66569241b3677cad0b0be645c183f62ef925e09ce981fdb7be530cbfa8a56", func := "mintage/mintagelaw08.ScanExact", spec := "scanExact", inPlace := ["math/bits.Add64"], apart := false }
def ScanExactSaid : Prop := scanExactRow.holds Try.pinned (OpenSpec.ofChange scanExactSpec)

/-- ITS FALSE NEIGHBOUR: 'it returns false'. Refute it at one input. -/
def scanExactWrong : ChangeSpec := { name := "scanExact", fn := fun _ => fun
  | [d] => { results := [.lit (.bool false)], args := [d] }
  | _ => none }
def ScanExactWrongFalsely : Prop := scanExactRow.holds Try.pinned (OpenSpec.ofChange scanExactWrong)

/-- 'mintagelaw08.ScanSays': WHATEVER THE INPUT: true; the input reads as it did. -/
def scanSaysSpec : ChangeSpec := { name := "scanSays", fn := fun _ => fun
  | [d] => { results := [.lit (.bool true)], args := [d] }
  | _ => none }
def scanSaysRow : OpenClaim := { program := "ytjkaahnadaapoaa", sum := "16b66569241b3677cad0b0be645c183f62ef925e09ce981fdb7be530cbfa8a56", func := "mintage/mintagelaw08.ScanSays", spec := "scanSays", inPlace := ["math/bits.Add64"], apart := false }
def ScanSaysSaid : Prop := scanSaysRow.holds Try.pinned (OpenSpec.ofChange scanSaysSpec)

/-- ITS FALSE NEIGHBOUR: 'it returns false'. Refute it at one input. -/
def scanSaysWrong : ChangeSpec := { name := "scanSays", fn := fun _ => fun
  | [d] => { results := [.lit (.bool false)], args := [d] }
  | _ => none }
def ScanSaysWrongFalsely : Prop := scanSaysRow.holds Try.pinned (OpenSpec.ofChange scanSaysWrong)

/- THE SECOND FORM. 'bulk': how many values and letters a reading holds, each counted each time it is reached (what is shared counts as often as it is met; a slice's spare places count too). A statement '..UptoSaid' is the law's where the arguments, and the package variables that the reading takes, are together of bulk at most 1048576: NARROWER than '..Said'. Prove '..Said' where nothing that the law and all that it calls make is longer than what came in: it says more and counts as full. Else prove '..UptoSaid'. A law counts once. -/
mutual
def uptoBulk {H : Type} : DataW H → Nat
  | .lit (.string bytes) => bytes.length + 1
  | .lit _ => 1
  | .nil => 1
  | .ptr d => uptoBulk d + 1
  | .slice elems spare => uptoBulkAll elems + uptoBulkAll spare + 1
  | .agg parts => uptoBulkAll parts + 1
  | .iface _ d => uptoBulk d + 1
  | .map entries => uptoBulkEntries entries + 1
  | .held _ => 1
def uptoBulkAll {H : Type} : List (DataW H) → Nat
  | [] => 0
  | d :: r => uptoBulk d + uptoBulkAll r
def uptoBulkEntries {H : Type} : List (Lit × DataW H) → Nat
  | [] => 0
  | x :: r => uptoBulkEntry x + uptoBulkEntries r
def uptoBulkEntry {H : Type} : Lit × DataW H → Nat
  | (.string bytes, d) => bytes.length + uptoBulk d + 1
  | (_, d) => uptoBulk d + 1
 end
def uptoSmall : (H : Type) → List (DataW H) → Bool := fun _ ds => decide (uptoBulkAll ds ≤ 1048576)
def OpenSpec.upto (s : _root_.Go.ChangeSpec) : _root_.Go.OpenSpec := { _root_.Go.OpenSpec.ofChange s with cond := some uptoSmall }

/-- 'mintagelaw08.ScanReads', WHERE WHAT IT READS IS OF BULK AT MOST 1048576: true; the input reads as it did. -/
def scanReadsUptoRow : OpenClaim := { program := "ytjkaahnadaapoaa", sum := "16b66569241b3677cad0b0be645c183f62ef925e09ce981fdb7be530cbfa8a56", func := "mintage/mintagelaw08.ScanReads", spec := "scanReads", apart := false, narrowed := true }
def ScanReadsUptoSaid : Prop := scanReadsUptoRow.holds Try.pinned (OpenSpec.upto scanReadsSpec)

/-- 'mintagelaw08.ScanForms', WHERE WHAT IT READS IS OF BULK AT MOST 1048576: true; the input reads as it did. -/
def scanFormsUptoRow : OpenClaim := { program := "ytjkaahnadaapoaa", sum := "16b66569241b3677cad0b0be645c183f62ef925e09ce981fdb7be530cbfa8a56", func := "mintage/mintagelaw08.ScanForms", spec := "scanForms", apart := false, narrowed := true }
def ScanFormsUptoSaid : Prop := scanFormsUptoRow.holds Try.pinned (OpenSpec.upto scanFormsSpec)

/-- 'mintagelaw08.ScanPlaces', WHERE WHAT IT READS IS OF BULK AT MOST 1048576: true; the input reads as it did. -/
def scanPlacesUptoRow : OpenClaim := { program := "ytjkaahnadaapoaa", sum := "16b66569241b3677cad0b0be645c183f62ef925e09ce981fdb7be530cbfa8a56", func := "mintage/mintagelaw08.ScanPlaces", spec := "scanPlaces", apart := false, narrowed := true }
def ScanPlacesUptoSaid : Prop := scanPlacesUptoRow.holds Try.pinned (OpenSpec.upto scanPlacesSpec)

/-- 'mintagelaw08.ScanEnds', WHERE WHAT IT READS IS OF BULK AT MOST 1048576: true; the input reads as it did. -/
def scanEndsUptoRow : OpenClaim := { program := "ytjkaahnadaapoaa", sum := "16b66569241b3677cad0b0be645c183f62ef925e09ce981fdb7be530cbfa8a56", func := "mintage/mintagelaw08.ScanEnds", spec := "scanEnds", apart := false, narrowed := true }
def ScanEndsUptoSaid : Prop := scanEndsUptoRow.holds Try.pinned (OpenSpec.upto scanEndsSpec)

/-- 'mintagelaw08.ScanExact', WHERE WHAT IT READS IS OF BULK AT MOST 1048576: true; the input reads as it did. -/
def scanExactUptoRow : OpenClaim := { program := "ytjkaahnadaapoaa", sum := "16b66569241b3677cad0b0be645c183f62ef925e09ce981fdb7be530cbfa8a56", func := "mintage/mintagelaw08.ScanExact", spec := "scanExact", inPlace := ["math/bits.Add64"], apart := false, narrowed := true }
def ScanExactUptoSaid : Prop := scanExactUptoRow.holds Try.pinned (OpenSpec.upto scanExactSpec)

/-- 'mintagelaw08.ScanSays', WHERE WHAT IT READS IS OF BULK AT MOST 1048576: true; the input reads as it did. -/
def scanSaysUptoRow : OpenClaim := { program := "ytjkaahnadaapoaa", sum := "16b66569241b3677cad0b0be645c183f62ef925e09ce981fdb7be530cbfa8a56", func := "mintage/mintagelaw08.ScanSays", spec := "scanSays", inPlace := ["math/bits.Add64"], apart := false, narrowed := true }
def ScanSaysUptoSaid : Prop := scanSaysUptoRow.holds Try.pinned (OpenSpec.upto scanSaysSpec)

end Rows
end Go.Proofs.Ytjkaahnadaapoaa
