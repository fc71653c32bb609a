/-
  No cell of these rows narrows 'for every input' (looked for: loops, veiled, ifaces, maps, wideKeys, modest, calm, conditions, laid).
  DERIVED. THE GIVEN ROWS OF THIS SEAT. 5 by the template 'for every input the law returns true; each argument reads behind the call as it read before'; 0 by the template 'total and deterministic' (their statements: YtmcbdgpcbcldjaaTotals.lean).
  GIVEN WITH THE SEED: the statements are not yours to turn. If you find one false, say at which input.
  Laid BY PROGRAM, IN A SANDBOX (cutbox-rows.mjs): the forced cells as the released guide's own fill.sh prints them over the translation c3f534c051c8eda2… (all of the seat's roots in one cut). By AI agents, Wed Nov 11 2026. No macro, syntax, notation, axiom, sorry.
-/
import Derived.Test.YtmcbdgpcbcldjaaChecked
import GoSem.Claim
import GoSem.ClaimJoined
import GoSem.ClaimMapViews
import Derived.JoinedTies
import Derived.KernelRfl
namespace Go.Proofs.Ytmcbdgpcbcldjaa
/- THE CELL 'sum', in the pinned program and in every row, IS THE sha256 OF THE DUMP (.gsa) THAT YtmcbdgpcbcldjaaProg.lean LOADS. Nothing in Lean hashes anything: it is a label: what it is worth is what the hold of that sum in a sandbox is worth. -/
noncomputable def Try.pinned : Pinned := { name := "ytmcbdgpcbcldjaa", sum := "c3f534c051c8eda277076377830e93a4f5fa2ec5cda535ce1e173b37a75f5f8d", checked := Try.checked }
namespace Rows
def none {H : Type} : Left H := { results := [], args := [] }

/-- 'mintagelaw10.ShortWhole': WHATEVER THE INPUT: true; the input reads as it did. -/
def shortWholeSpec : ChangeSpec := { name := "shortWhole", fn := fun _ => fun
  | [d] => { results := [.lit (.bool true)], args := [d] }
  | _ => none }
def shortWholeRow : OpenClaim := { program := "ytmcbdgpcbcldjaa", sum := "c3f534c051c8eda277076377830e93a4f5fa2ec5cda535ce1e173b37a75f5f8d", func := "mintage/mintagelaw10.ShortWhole", spec := "shortWhole", inPlace := ["math/bits.Add64", "math/bits.Sub64"], named := ["math/bits.divideError", "math/bits.overflowError"], apart := false }
def ShortWholeSaid : Prop := shortWholeRow.holds Try.pinned (OpenSpec.ofChange shortWholeSpec)

/-- ITS FALSE NEIGHBOUR: 'it returns false'. Refute it at one input. -/
def shortWholeWrong : ChangeSpec := { name := "shortWhole", fn := fun _ => fun
  | [d] => { results := [.lit (.bool false)], args := [d] }
  | _ => none }
def ShortWholeWrongFalsely : Prop := shortWholeRow.holds Try.pinned (OpenSpec.ofChange shortWholeWrong)

/-- 'mintagelaw10.ShortReads': WHATEVER THE INPUT: true; the input reads as it did. -/
def shortReadsSpec : ChangeSpec := { name := "shortReads", fn := fun _ => fun
  | [d1, d2, d3, d4, d5] => { results := [.lit (.bool true)], args := [d1, d2, d3, d4, d5] }
  | _ => none }
def shortReadsRow : OpenClaim := { program := "ytmcbdgpcbcldjaa", sum := "c3f534c051c8eda277076377830e93a4f5fa2ec5cda535ce1e173b37a75f5f8d", func := "mintage/mintagelaw10.ShortReads", spec := "shortReads", inPlace := ["math/bits.Add64", "math/bits.Sub64"], named := ["math/bits.divideError", "math/bits.overflowError"], apart := false }
def ShortReadsSaid : Prop := shortReadsRow.holds Try.pinned (OpenSpec.ofChange shortReadsSpec)

/-- ITS FALSE NEIGHBOUR: 'it returns false'. Refute it at one input. -/
def shortReadsWrong : ChangeSpec := { name := "shortReads", fn := fun _ => fun
  | [d1, d2, d3, d4, d5] => { results := [.lit (.bool false)], args := [d1, d2, d3, d4, d5] }
  | _ => none }
def ShortReadsWrongFalsely : Prop := shortReadsRow.holds Try.pinned (OpenSpec.ofChange shortReadsWrong)

/-- 'mintagelaw10.ShortFewest': WHATEVER THE INPUT: true; the input reads as it did. -/
def shortFewestSpec : ChangeSpec := { name := "shortFewest", fn := fun _ => fun
  | [d1, d2] => { results := [.lit (.bool true)], args := [d1, d2] }
  | _ => none }
def shortFewestRow : OpenClaim := { program := "ytmcbdgpcbcldjaa", sum := "c3f534c051c8eda277076377830e93a4f5fa2ec5cda535ce1e173b37a75f5f8d", func := "mintage/mintagelaw10.ShortFewest", spec := "shortFewest", inPlace := ["math/bits.Add64", "math/bits.Sub64"], named := ["math/bits.divideError", "math/bits.overflowError"], apart := false }
def ShortFewestSaid : Prop := shortFewestRow.holds Try.pinned (OpenSpec.ofChange shortFewestSpec)

/-- ITS FALSE NEIGHBOUR: 'it returns false'. Refute it at one input. -/
def shortFewestWrong : ChangeSpec := { name := "shortFewest", fn := fun _ => fun
  | [d1, d2] => { results := [.lit (.bool false)], args := [d1, d2] }
  | _ => none }
def ShortFewestWrongFalsely : Prop := shortFewestRow.holds Try.pinned (OpenSpec.ofChange shortFewestWrong)

/-- 'mintagelaw10.ShortOrder': WHATEVER THE INPUT: true; the input reads as it did. -/
def shortOrderSpec : ChangeSpec := { name := "shortOrder", fn := fun _ => fun
  | [d1, d2] => { results := [.lit (.bool true)], args := [d1, d2] }
  | _ => none }
def shortOrderRow : OpenClaim := { program := "ytmcbdgpcbcldjaa", sum := "c3f534c051c8eda277076377830e93a4f5fa2ec5cda535ce1e173b37a75f5f8d", func := "mintage/mintagelaw10.ShortOrder", spec := "shortOrder", inPlace := ["math/bits.Add64", "math/bits.Sub64"], named := ["math/bits.divideError", "math/bits.overflowError"], apart := false }
def ShortOrderSaid : Prop := shortOrderRow.holds Try.pinned (OpenSpec.ofChange shortOrderSpec)

/-- ITS FALSE NEIGHBOUR: 'it returns false'. Refute it at one input. -/
def shortOrderWrong : ChangeSpec := { name := "shortOrder", fn := fun _ => fun
  | [d1, d2] => { results := [.lit (.bool false)], args := [d1, d2] }
  | _ => none }
def ShortOrderWrongFalsely : Prop := shortOrderRow.holds Try.pinned (OpenSpec.ofChange shortOrderWrong)

/-- 'mintagelaw10.ShortDigits': WHATEVER THE INPUT: true; the input reads as it did. -/
def shortDigitsSpec : ChangeSpec := { name := "shortDigits", fn := fun _ => fun
  | [d1, d2] => { results := [.lit (.bool true)], args := [d1, d2] }
  | _ => none }
def shortDigitsRow : OpenClaim := { program := "ytmcbdgpcbcldjaa", sum := "c3f534c051c8eda277076377830e93a4f5fa2ec5cda535ce1e173b37a75f5f8d", func := "mintage/mintagelaw10.ShortDigits", spec := "shortDigits", inPlace := ["math/bits.Add64", "math/bits.Sub64"], named := ["math/bits.divideError", "math/bits.overflowError"], apart := false }
def ShortDigitsSaid : Prop := shortDigitsRow.holds Try.pinned (OpenSpec.ofChange shortDigitsSpec)

/-- ITS FALSE NEIGHBOUR: 'it returns false'. Refute it at one input. -/
def shortDigitsWrong : ChangeSpec := { name := "shortDigits", fn := fun _ => fun
  | [d1, d2] => { results := [.lit (.bool false)], args := [d1, d2] }
  | _ => none }
def ShortDigitsWrongFalsely : Prop := shortDigitsRow.holds Try.pinned (OpenSpec.ofChange shortDigitsWrong)

/- THE SECOND FORM. 'bulk': how many values and letters a reading holds, each counted each time it is reached (what is shared counts as often as it is met; a slice's spare places count too). A statement '..UptoSaid' is the law's where the arguments, and the package variables that the reading takes, are together of bulk at most 1048576: NARROWER than '..Said'. Prove '..Said' where nothing that the law and all that it calls make is longer than what came in: it says more and counts as full. Else prove '..UptoSaid'. A law counts once. -/
mutual
def uptoBulk {H : Type} : DataW H → Nat
  | .lit (.string bytes) => bytes.length + 1
  | .lit _ => 1
  | .nil => 1
  | .ptr d => uptoBulk d + 1
  | .slice elems spare => uptoBulkAll elems + uptoBulkAll spare + 1
  | .agg parts => uptoBulkAll parts + 1
  | .iface _ d => uptoBulk d + 1
  | .map entries => uptoBulkEntries entries + 1
  | .held _ => 1
def uptoBulkAll {H : Type} : List (DataW H) → Nat
  | [] => 0
  | d :: r => uptoBulk d + uptoBulkAll r
def uptoBulkEntries {H : Type} : List (Lit × DataW H) → Nat
  | [] => 0
  | x :: r => uptoBulkEntry x + uptoBulkEntries r
def uptoBulkEntry {H : Type} : Lit × DataW H → Nat
  | (.string bytes, d) => bytes.length + uptoBulk d + 1
  | (_, d) => uptoBulk d + 1
 end
def uptoSmall : (H : Type) → List (DataW H) → Bool := fun _ ds => decide (uptoBulkAll ds ≤ 1048576)
def OpenSpec.upto (s : _root_.Go.ChangeSpec) : _root_.Go.OpenSpec := { _root_.Go.OpenSpec.ofChange s with cond := some uptoSmall }

/-- 'mintagelaw10.ShortWhole', WHERE WHAT IT READS IS OF BULK AT MOST 1048576: true; the input reads as it did. -/
def shortWholeUptoRow : OpenClaim := { program := "ytmcbdgpcbcldjaa", sum := "c3f534c051c8eda277076377830e93a4f5fa2ec5cda535ce1e173b37a75f5f8d", func := "mintage/mintagelaw10.ShortWhole", spec := "shortWhole", inPlace := ["math/bits.Add64", "math/bits.Sub64"], named := ["math/bits.divideError", "math/bits.overflowError"], apart := false, narrowed := true }
def ShortWholeUptoSaid : Prop := shortWholeUptoRow.holds Try.pinned (OpenSpec.upto shortWholeSpec)

/-- 'mintagelaw10.ShortReads', WHERE WHAT IT READS IS OF BULK AT MOST 1048576: true; the input reads as it did. -/
def shortReadsUptoRow : OpenClaim := { program := "ytmcbdgpcbcldjaa", sum := "c3f534c051c8eda277076377830e93a4f5fa2ec5cda535ce1e173b37a75f5f8d", func := "mintage/mintagelaw10.ShortReads", spec := "shortReads", inPlace := ["math/bits.Add64", "math/bits.Sub64"], named := ["math/bits.divideError", "math/bits.overflowError"], apart := false, narrowed := true }
def ShortReadsUptoSaid : Prop := shortReadsUptoRow.holds Try.pinned (OpenSpec.upto shortReadsSpec)

/-- 'mintagelaw10.ShortFewest', WHERE WHAT IT READS IS OF BULK AT MOST 1048576: true; the input reads as it did. -/
def shortFewestUptoRow : OpenClaim := { program := "ytmcbdgpcbcldjaa", sum := "c3f534c051c8eda277076377830e93a4f5fa2ec5cda535ce1e173b37a75f5f8d", func := "mintage/mintagelaw10.ShortFewest", spec := "shortFewest", inPlace := ["math/bits.Add64", "math/bits.Sub64"], named := ["math/bits.divideError", "math/bits.overflowError"], apart := false, narrowed := true }
def ShortFewestUptoSaid : Prop := shortFewestUptoRow.holds Try.pinned (OpenSpec.upto shortFewestSpec)

/-- 'mintagelaw10.ShortOrder', WHERE WHAT IT READS IS OF BULK AT MOST 1048576: true; the input reads as it did. -/
def shortOrderUptoRow : OpenClaim := { program := "ytmcbdgpcbcldjaa", sum := "c3f534c051c8eda277076377830e93a4f5fa2ec5cda535ce1e173b37a75f5f8d", func := "mintage/mintagelaw10.ShortOrder", spec := "shortOrder", inPlace := ["math/bits.Add64", "math/bits.Sub64"], named := ["math/bits.divideError", "math/bits.overflowError"], apart := false, narrowed := true }
def ShortOrderUptoSaid : Prop := shortOrderUptoRow.holds Try.pinned (OpenSpec.upto shortOrderSpec)

/-- 'mintagelaw10.ShortDigits', WHERE WHAT IT READS IS OF BULK AT MOST 1048576: true; the input reads as it did. -/
def shortDigitsUptoRow : OpenClaim := { program := "ytmcbdgpcbcldjaa", sum := "c3f534c051c8eda277076377830e93a4f5fa2ec5cda535ce1e173b37a75f5f8d", func := "mintage/mintagelaw10.ShortDigits", spec := "shortDigits", inPlace := ["math/bits.Add64", "math/bits.Sub64"], named := ["math/bits.divideError", "math/bits.overflowError"], apart := false, narrowed := true }
def ShortDigitsUptoSaid : Prop := shortDigitsUptoRow.holds Try.pinned (OpenSpec.upto shortDigitsSpec)

end Rows
end Go.Proofs.Ytmcbdgpcbcldjaa
