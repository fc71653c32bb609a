/-
  No cell of these rows narrows 'for every input' (looked for: loops, veiled, ifaces, maps, wideKeys, modest, calm, conditions, laid).
  DERIVED. THE GIVEN ROWS OF THIS SEAT. 7 by the template 'for every input the law returns true; each argument reads behind the call as it read before'; 0 by the template 'total and deterministic' (their statements: YtidbonodfmicgaaTotals.lean).
  GIVEN WITH THE SEED: the statements are not yours to turn. If you find one false, say at which input.
  Laid BY PROGRAM, IN A SANDBOX (cutbox-rows.mjs): the forced cells as the released guide's own fill.sh prints them over the translation 19adfb58c7d169ed… (all of the seat's roots in one cut). By AI agents, Wed Nov 11 2026. No macro, syntax, notation, axiom, sorry.
-/
import Derived.Test.YtidbonodfmicgaaChecked
import GoSem.Claim
import GoSem.ClaimJoined
import GoSem.ClaimMapViews
import Derived.JoinedTies
import Derived.KernelRfl
namespace Go.Proofs.Ytidbonodfmicgaa
/- THE CELL 'sum', in the pinned program and in every row, IS THE sha256 OF THE DUMP (.gsa) THAT YtidbonodfmicgaaProg.lean LOADS. Nothing in Lean hashes anything: it is a label: what it is worth is what the hold of that sum in a sandbox is worth. -/
noncomputable def Try.pinned : Pinned := { name := "ytidbonodfmicgaa", sum := "19adfb58c7d169ede1a1f0b444b335bbe2d01e09a9846a57d645a14b62451973", checked := Try.checked }
namespace Rows
def none {H : Type} : Left H := { results := [], args := [] }

/-- 'mintagelaw03.BitsRounds': WHATEVER THE INPUT: true; the input reads as it did. -/
def bitsRoundsSpec : ChangeSpec := { name := "bitsRounds", fn := fun _ => fun
  | [d1, d2, d3, d4] => { results := [.lit (.bool true)], args := [d1, d2, d3, d4] }
  | _ => none }
def bitsRoundsRow : OpenClaim := { program := "ytidbonodfmicgaa", sum := "19adfb58c7d169ede1a1f0b444b335bbe2d01e09a9846a57d645a14b62451973", func := "mintage/mintagelaw03.BitsRounds", spec := "bitsRounds", inPlace := ["math/bits.Sub64"], apart := false }
def BitsRoundsSaid : Prop := bitsRoundsRow.holds Try.pinned (OpenSpec.ofChange bitsRoundsSpec)

/-- ITS FALSE NEIGHBOUR: 'it returns false'. Refute it at one input. -/
def bitsRoundsWrong : ChangeSpec := { name := "bitsRounds", fn := fun _ => fun
  | [d1, d2, d3, d4] => { results := [.lit (.bool false)], args := [d1, d2, d3, d4] }
  | _ => none }
def BitsRoundsWrongFalsely : Prop := bitsRoundsRow.holds Try.pinned (OpenSpec.ofChange bitsRoundsWrong)

/-- 'mintagelaw03.BitsJoins': WHATEVER THE INPUT: true; the input reads as it did. -/
def bitsJoinsSpec : ChangeSpec := { name := "bitsJoins", fn := fun _ => fun
  | [d1, d2] => { results := [.lit (.bool true)], args := [d1, d2] }
  | _ => none }
def bitsJoinsRow : OpenClaim := { program := "ytidbonodfmicgaa", sum := "19adfb58c7d169ede1a1f0b444b335bbe2d01e09a9846a57d645a14b62451973", func := "mintage/mintagelaw03.BitsJoins", spec := "bitsJoins", inPlace := ["math/bits.Sub64"], apart := false }
def BitsJoinsSaid : Prop := bitsJoinsRow.holds Try.pinned (OpenSpec.ofChange bitsJoinsSpec)

/-- ITS FALSE NEIGHBOUR: 'it returns false'. Refute it at one input. -/
def bitsJoinsWrong : ChangeSpec := { name := "bitsJoins", fn := fun _ => fun
  | [d1, d2] => { results := [.lit (.bool false)], args := [d1, d2] }
  | _ => none }
def BitsJoinsWrongFalsely : Prop := bitsJoinsRow.holds Try.pinned (OpenSpec.ofChange bitsJoinsWrong)

/-- 'mintagelaw03.BitsBetween': WHATEVER THE INPUT: true; the input reads as it did. -/
def bitsBetweenSpec : ChangeSpec := { name := "bitsBetween", fn := fun _ => fun
  | [d1, d2, d3] => { results := [.lit (.bool true)], args := [d1, d2, d3] }
  | _ => none }
def bitsBetweenRow : OpenClaim := { program := "ytidbonodfmicgaa", sum := "19adfb58c7d169ede1a1f0b444b335bbe2d01e09a9846a57d645a14b62451973", func := "mintage/mintagelaw03.BitsBetween", spec := "bitsBetween", inPlace := ["math/bits.Sub64"], apart := false }
def BitsBetweenSaid : Prop := bitsBetweenRow.holds Try.pinned (OpenSpec.ofChange bitsBetweenSpec)

/-- ITS FALSE NEIGHBOUR: 'it returns false'. Refute it at one input. -/
def bitsBetweenWrong : ChangeSpec := { name := "bitsBetween", fn := fun _ => fun
  | [d1, d2, d3] => { results := [.lit (.bool false)], args := [d1, d2, d3] }
  | _ => none }
def BitsBetweenWrongFalsely : Prop := bitsBetweenRow.holds Try.pinned (OpenSpec.ofChange bitsBetweenWrong)

/-- 'mintagelaw03.BitsBack': WHATEVER THE INPUT: true; the input reads as it did. -/
def bitsBackSpec : ChangeSpec := { name := "bitsBack", fn := fun _ => fun
  | [d1, d2, d3] => { results := [.lit (.bool true)], args := [d1, d2, d3] }
  | _ => none }
def bitsBackRow : OpenClaim := { program := "ytidbonodfmicgaa", sum := "19adfb58c7d169ede1a1f0b444b335bbe2d01e09a9846a57d645a14b62451973", func := "mintage/mintagelaw03.BitsBack", spec := "bitsBack", inPlace := ["math/bits.Sub64"], apart := false }
def BitsBackSaid : Prop := bitsBackRow.holds Try.pinned (OpenSpec.ofChange bitsBackSpec)

/-- ITS FALSE NEIGHBOUR: 'it returns false'. Refute it at one input. -/
def bitsBackWrong : ChangeSpec := { name := "bitsBack", fn := fun _ => fun
  | [d1, d2, d3] => { results := [.lit (.bool false)], args := [d1, d2, d3] }
  | _ => none }
def BitsBackWrongFalsely : Prop := bitsBackRow.holds Try.pinned (OpenSpec.ofChange bitsBackWrong)

/-- 'mintagelaw03.BitsOrder': WHATEVER THE INPUT: true; the input reads as it did. -/
def bitsOrderSpec : ChangeSpec := { name := "bitsOrder", fn := fun _ => fun
  | [d1, d2, d3] => { results := [.lit (.bool true)], args := [d1, d2, d3] }
  | _ => none }
def bitsOrderRow : OpenClaim := { program := "ytidbonodfmicgaa", sum := "19adfb58c7d169ede1a1f0b444b335bbe2d01e09a9846a57d645a14b62451973", func := "mintage/mintagelaw03.BitsOrder", spec := "bitsOrder", inPlace := ["math/bits.Sub64"], apart := false }
def BitsOrderSaid : Prop := bitsOrderRow.holds Try.pinned (OpenSpec.ofChange bitsOrderSpec)

/-- ITS FALSE NEIGHBOUR: 'it returns false'. Refute it at one input. -/
def bitsOrderWrong : ChangeSpec := { name := "bitsOrder", fn := fun _ => fun
  | [d1, d2, d3] => { results := [.lit (.bool false)], args := [d1, d2, d3] }
  | _ => none }
def BitsOrderWrongFalsely : Prop := bitsOrderRow.holds Try.pinned (OpenSpec.ofChange bitsOrderWrong)

/-- 'mintagelaw03.BitsEnds': WHATEVER THE INPUT: true; the input reads as it did. -/
def bitsEndsSpec : ChangeSpec := { name := "bitsEnds", fn := fun _ => fun
  | [] => { results := [.lit (.bool true)], args := [] }
  | _ => none }
def bitsEndsRow : OpenClaim := { program := "ytidbonodfmicgaa", sum := "19adfb58c7d169ede1a1f0b444b335bbe2d01e09a9846a57d645a14b62451973", func := "mintage/mintagelaw03.BitsEnds", spec := "bitsEnds", inPlace := ["math/bits.Sub64"], apart := false }
def BitsEndsSaid : Prop := bitsEndsRow.holds Try.pinned (OpenSpec.ofChange bitsEndsSpec)

/-- ITS FALSE NEIGHBOUR: 'it returns false'. Refute it at one input. -/
def bitsEndsWrong : ChangeSpec := { name := "bitsEnds", fn := fun _ => fun
  | [] => { results := [.lit (.bool false)], args := [] }
  | _ => none }
def BitsEndsWrongFalsely : Prop := bitsEndsRow.holds Try.pinned (OpenSpec.ofChange bitsEndsWrong)

/-- 'mintagelaw03.BitsShapes': WHATEVER THE INPUT: true; the input reads as it did. -/
def bitsShapesSpec : ChangeSpec := { name := "bitsShapes", fn := fun _ => fun
  | [d1, d2, d3] => { results := [.lit (.bool true)], args := [d1, d2, d3] }
  | _ => none }
def bitsShapesRow : OpenClaim := { program := "ytidbonodfmicgaa", sum := "19adfb58c7d169ede1a1f0b444b335bbe2d01e09a9846a57d645a14b62451973", func := "mintage/mintagelaw03.BitsShapes", spec := "bitsShapes", inPlace := ["math/bits.Sub64"], apart := false }
def BitsShapesSaid : Prop := bitsShapesRow.holds Try.pinned (OpenSpec.ofChange bitsShapesSpec)

/-- ITS FALSE NEIGHBOUR: 'it returns false'. Refute it at one input. -/
def bitsShapesWrong : ChangeSpec := { name := "bitsShapes", fn := fun _ => fun
  | [d1, d2, d3] => { results := [.lit (.bool false)], args := [d1, d2, d3] }
  | _ => none }
def BitsShapesWrongFalsely : Prop := bitsShapesRow.holds Try.pinned (OpenSpec.ofChange bitsShapesWrong)

/- THE SECOND FORM. 'bulk': how many values and letters a reading holds, each counted each time it is reached (what is shared counts as often as it is met; a slice's spare places count too). A statement '..UptoSaid' is the law's where the arguments, and the package variables that the reading takes, are together of bulk at most 1048576: NARROWER than '..Said'. Prove '..Said' where nothing that the law and all that it calls make is longer than what came in: it says more and counts as full. Else prove '..UptoSaid'. A law counts once. -/
mutual
def uptoBulk {H : Type} : DataW H → Nat
  | .lit (.string bytes) => bytes.length + 1
  | .lit _ => 1
  | .nil => 1
  | .ptr d => uptoBulk d + 1
  | .slice elems spare => uptoBulkAll elems + uptoBulkAll spare + 1
  | .agg parts => uptoBulkAll parts + 1
  | .iface _ d => uptoBulk d + 1
  | .map entries => uptoBulkEntries entries + 1
  | .held _ => 1
def uptoBulkAll {H : Type} : List (DataW H) → Nat
  | [] => 0
  | d :: r => uptoBulk d + uptoBulkAll r
def uptoBulkEntries {H : Type} : List (Lit × DataW H) → Nat
  | [] => 0
  | x :: r => uptoBulkEntry x + uptoBulkEntries r
def uptoBulkEntry {H : Type} : Lit × DataW H → Nat
  | (.string bytes, d) => bytes.length + uptoBulk d + 1
  | (_, d) => uptoBulk d + 1
 end
def uptoSmall : (H : Type) → List (DataW H) → Bool := fun _ ds => decide (uptoBulkAll ds ≤ 1048576)
def OpenSpec.upto (s : _root_.Go.ChangeSpec) : _root_.Go.OpenSpec := { _root_.Go.OpenSpec.ofChange s with cond := some uptoSmall }

/-- 'mintagelaw03.BitsRounds', WHERE WHAT IT READS IS OF BULK AT MOST 1048576: true; the input reads as it did. -/
def bitsRoundsUptoRow : OpenClaim := { program := "ytidbonodfmicgaa", sum := "19adfb58c7d169ede1a1f0b444b335bbe2d01e09a9846a57d645a14b62451973", func := "mintage/mintagelaw03.BitsRounds", spec := "bitsRounds", inPlace := ["math/bits.Sub64"], apart := false, narrowed := true }
def BitsRoundsUptoSaid : Prop := bitsRoundsUptoRow.holds Try.pinned (OpenSpec.upto bitsRoundsSpec)

/-- 'mintagelaw03.BitsJoins', WHERE WHAT IT READS IS OF BULK AT MOST 1048576: true; the input reads as it did. -/
def bitsJoinsUptoRow : OpenClaim := { program := "ytidbonodfmicgaa", sum := "19adfb58c7d169ede1a1f0b444b335bbe2d01e09a9846a57d645a14b62451973", func := "mintage/mintagelaw03.BitsJoins", spec := "bitsJoins", inPlace := ["math/bits.Sub64"], apart := false, narrowed := true }
def BitsJoinsUptoSaid : Prop := bitsJoinsUptoRow.holds Try.pinned (OpenSpec.upto bitsJoinsSpec)

/-- 'mintagelaw03.BitsBetween', WHERE WHAT IT READS IS OF BULK AT MOST 1048576: true; the input reads as it did. -/
def bitsBetweenUptoRow : OpenClaim := { program := "ytidbonodfmicgaa", sum := "19adfb58c7d169ede1a1f0b444b335bbe2d01e09a9846a57d645a14b62451973", func := "mintage/mintagelaw03.BitsBetween", spec := "bitsBetween", inPlace := ["math/bits.Sub64"], apart := false, narrowed := true }
def BitsBetweenUptoSaid : Prop := bitsBetweenUptoRow.holds Try.pinned (OpenSpec.upto bitsBetweenSpec)

/-- 'mintagelaw03.BitsBack', WHERE WHAT IT READS IS OF BULK AT MOST 1048576: true; the input reads as it did. -/
def bitsBackUptoRow : OpenClaim := { program := "ytidbonodfmicgaa", sum := "19adfb58c7d169ede1a1f0b444b335bbe2d01e09a9846a57d645a14b62451973", func := "mintage/mintagelaw03.BitsBack", spec := "bitsBack", inPlace := ["math/bits.Sub64"], apart := false, narrowed := true }
def BitsBackUptoSaid : Prop := bitsBackUptoRow.holds Try.pinned (OpenSpec.upto bitsBackSpec)

/-- 'mintagelaw03.BitsOrder', WHERE WHAT IT READS IS OF BULK AT MOST 1048576: true; the input reads as it did. -/
def bitsOrderUptoRow : OpenClaim := { program := "ytidbonodfmicgaa", sum := "19adfb58c7d169ede1a1f0b444b335bbe2d01e09a9846a57d645a14b62451973", func := "mintage/mintagelaw03.BitsOrder", spec := "bitsOrder", inPlace := ["math/bits.Sub64"], apart := false, narrowed := true }
def BitsOrderUptoSaid : Prop := bitsOrderUptoRow.holds Try.pinned (OpenSpec.upto bitsOrderSpec)

/-- 'mintagelaw03.BitsEnds', WHERE WHAT IT READS IS OF BULK AT MOST 1048576: true; the input reads as it did. -/
def bitsEndsUptoRow : OpenClaim := { program := "ytidbonodfmicgaa", sum := "19adfb58c7d169ede1a1f0b444b335bbe2d01e09a9846a57d645a14b62451973", func := "mintage/mintagelaw03.BitsEnds", spec := "bitsEnds", inPlace := ["math/bits.Sub64"], apart := false, narrowed := true }
def BitsEndsUptoSaid : Prop := bitsEndsUptoRow.holds Try.pinned (OpenSpec.upto bitsEndsSpec)

/-- 'mintagelaw03.BitsShapes', WHERE WHAT IT READS IS OF BULK AT MOST 1048576: true; the input reads as it did. -/
def bitsShapesUptoRow : OpenClaim := { program := "ytidbonodfmicgaa", sum := "19adfb58c7d169ede1a1f0b444b335bbe2d01e09a9846a57d645a14b62451973", func := "mintage/mintagelaw03.BitsShapes", spec := "bitsShapes", inPlace := ["math/bits.Sub64"], apart := false, narrowed := true }
def BitsShapesUptoSaid : Prop := bitsShapesUptoRow.holds Try.pinned (OpenSpec.upto bitsShapesSpec)

end Rows
end Go.Proofs.Ytidbonodfmicgaa
