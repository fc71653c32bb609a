/-
  No cell of these rows narrows 'for every input' (looked for: loops, veiled, ifaces, maps, wideKeys, modest, calm, conditions, laid).
  DERIVED. THE GIVEN ROWS OF THIS SEAT. 7 by the template 'for every input the law returns true; each argument reads behind the call as it read before'; 0 by the template 'total and deterministic' (their statements: YtnddfmjmeghkjaaTotals.lean).
  GIVEN WITH THE SEED: the statements are not yours to turn. If you find one false, say at which input.
  Laid BY PROGRAM, IN A SANDBOX (cutbox-rows.mjs): the forced cells as the released guide's own fill.sh prints them over the translation fd876019b0df0d7a… (all of the seat's roots in one cut). By AI agents, Wed Nov 11 2026. No macro, syntax, notation, axiom, sorry.
-/
import Derived.Test.YtnddfmjmeghkjaaChecked
import GoSem.Claim
import GoSem.ClaimJoined
import GoSem.ClaimMapViews
import Derived.JoinedTies
import Derived.KernelRfl
namespace Go.Proofs.Ytnddfmjmeghkjaa
/- THE CELL 'sum', in the pinned program and in every row, IS THE sha256 OF THE DUMP (.gsa) THAT YtnddfmjmeghkjaaProg.lean LOADS. Nothing in Lean hashes anything: it is a label: what it is worth is what the hold of that sum in a sandbox is worth. -/
noncomputable def Try.pinned : Pinned := { name := "ytnddfmjmeghkjaa", sum := "fd876019b0df0d7ad0db7dc3b3fe5e718c63b20506f4dcfc22cbb5a081fd2b52", checked := Try.checked }
namespace Rows
def none {H : Type} : Left H := { results := [], args := [] }

/-- 'mintagelaw02.NatPowers': WHATEVER THE INPUT: true; the input reads as it did. -/
def natPowersSpec : ChangeSpec := { name := "natPowers", fn := fun _ => fun
  | [d1, d2] => { results := [.lit (.bool true)], args := [d1, d2] }
  | _ => none }
def natPowersRow : OpenClaim := { program := "ytnddfmjmeghkjaa", sum := "fd876019b0df0d7ad0db7dc3b3fe5e718c63b20506f4dcfc22cbb5a081fd2b52", func := "mintage/mintagelaw02.NatPowers", spec := "natPowers", inPlace := ["math/bits.Add64"], apart := false }
def NatPowersSaid : Prop := natPowersRow.holds Try.pinned (OpenSpec.ofChange natPowersSpec)

/-- ITS FALSE NEIGHBOUR: 'it returns false'. Refute it at one input. -/
def natPowersWrong : ChangeSpec := { name := "natPowers", fn := fun _ => fun
  | [d1, d2] => { results := [.lit (.bool false)], args := [d1, d2] }
  | _ => none }
def NatPowersWrongFalsely : Prop := natPowersRow.holds Try.pinned (OpenSpec.ofChange natPowersWrong)

/-- 'mintagelaw02.NatTexts': WHATEVER THE INPUT: true; the input reads as it did. -/
def natTextsSpec : ChangeSpec := { name := "natTexts", fn := fun _ => fun
  | [d1, d2] => { results := [.lit (.bool true)], args := [d1, d2] }
  | _ => none }
def natTextsRow : OpenClaim := { program := "ytnddfmjmeghkjaa", sum := "fd876019b0df0d7ad0db7dc3b3fe5e718c63b20506f4dcfc22cbb5a081fd2b52", func := "mintage/mintagelaw02.NatTexts", spec := "natTexts", inPlace := ["math/bits.Add64"], named := ["math/bits.divideError", "math/bits.overflowError"], apart := false }
def NatTextsSaid : Prop := natTextsRow.holds Try.pinned (OpenSpec.ofChange natTextsSpec)

/-- ITS FALSE NEIGHBOUR: 'it returns false'. Refute it at one input. -/
def natTextsWrong : ChangeSpec := { name := "natTexts", fn := fun _ => fun
  | [d1, d2] => { results := [.lit (.bool false)], args := [d1, d2] }
  | _ => none }
def NatTextsWrongFalsely : Prop := natTextsRow.holds Try.pinned (OpenSpec.ofChange natTextsWrong)

/-- 'mintagelaw02.NatSums': WHATEVER THE INPUT: true; the input reads as it did. -/
def natSumsSpec : ChangeSpec := { name := "natSums", fn := fun _ => fun
  | [d1, d2, d3] => { results := [.lit (.bool true)], args := [d1, d2, d3] }
  | _ => none }
def natSumsRow : OpenClaim := { program := "ytnddfmjmeghkjaa", sum := "fd876019b0df0d7ad0db7dc3b3fe5e718c63b20506f4dcfc22cbb5a081fd2b52", func := "mintage/mintagelaw02.NatSums", spec := "natSums", inPlace := ["math/bits.Add64", "math/bits.Sub64"], apart := false }
def NatSumsSaid : Prop := natSumsRow.holds Try.pinned (OpenSpec.ofChange natSumsSpec)

/-- ITS FALSE NEIGHBOUR: 'it returns false'. Refute it at one input. -/
def natSumsWrong : ChangeSpec := { name := "natSums", fn := fun _ => fun
  | [d1, d2, d3] => { results := [.lit (.bool false)], args := [d1, d2, d3] }
  | _ => none }
def NatSumsWrongFalsely : Prop := natSumsRow.holds Try.pinned (OpenSpec.ofChange natSumsWrong)

/-- 'mintagelaw02.NatRing': WHATEVER THE INPUT: true; the input reads as it did. -/
def natRingSpec : ChangeSpec := { name := "natRing", fn := fun _ => fun
  | [d1, d2, d3, d4] => { results := [.lit (.bool true)], args := [d1, d2, d3, d4] }
  | _ => none }
def natRingRow : OpenClaim := { program := "ytnddfmjmeghkjaa", sum := "fd876019b0df0d7ad0db7dc3b3fe5e718c63b20506f4dcfc22cbb5a081fd2b52", func := "mintage/mintagelaw02.NatRing", spec := "natRing", inPlace := ["math/bits.Add64"], apart := false }
def NatRingSaid : Prop := natRingRow.holds Try.pinned (OpenSpec.ofChange natRingSpec)

/-- ITS FALSE NEIGHBOUR: 'it returns false'. Refute it at one input. -/
def natRingWrong : ChangeSpec := { name := "natRing", fn := fun _ => fun
  | [d1, d2, d3, d4] => { results := [.lit (.bool false)], args := [d1, d2, d3, d4] }
  | _ => none }
def NatRingWrongFalsely : Prop := natRingRow.holds Try.pinned (OpenSpec.ofChange natRingWrong)

/-- 'mintagelaw02.NatOver': WHATEVER THE INPUT: true; the input reads as it did. -/
def natOverSpec : ChangeSpec := { name := "natOver", fn := fun _ => fun
  | [d1, d2] => { results := [.lit (.bool true)], args := [d1, d2] }
  | _ => none }
def natOverRow : OpenClaim := { program := "ytnddfmjmeghkjaa", sum := "fd876019b0df0d7ad0db7dc3b3fe5e718c63b20506f4dcfc22cbb5a081fd2b52", func := "mintage/mintagelaw02.NatOver", spec := "natOver", inPlace := ["math/bits.Add64", "math/bits.Sub64"], named := ["math/bits.divideError", "math/bits.overflowError"], apart := false }
def NatOverSaid : Prop := natOverRow.holds Try.pinned (OpenSpec.ofChange natOverSpec)

/-- ITS FALSE NEIGHBOUR: 'it returns false'. Refute it at one input. -/
def natOverWrong : ChangeSpec := { name := "natOver", fn := fun _ => fun
  | [d1, d2] => { results := [.lit (.bool false)], args := [d1, d2] }
  | _ => none }
def NatOverWrongFalsely : Prop := natOverRow.holds Try.pinned (OpenSpec.ofChange natOverWrong)

/-- 'mintagelaw02.NatBack': WHATEVER THE INPUT: true; the input reads as it did. -/
def natBackSpec : ChangeSpec := { name := "natBack", fn := fun _ => fun
  | [d1, d2, d3] => { results := [.lit (.bool true)], args := [d1, d2, d3] }
  | _ => none }
def natBackRow : OpenClaim := { program := "ytnddfmjmeghkjaa", sum := "fd876019b0df0d7ad0db7dc3b3fe5e718c63b20506f4dcfc22cbb5a081fd2b52", func := "mintage/mintagelaw02.NatBack", spec := "natBack", inPlace := ["math/bits.Add64", "math/bits.Sub64"], named := ["math/bits.divideError", "math/bits.overflowError"], apart := false }
def NatBackSaid : Prop := natBackRow.holds Try.pinned (OpenSpec.ofChange natBackSpec)

/-- ITS FALSE NEIGHBOUR: 'it returns false'. Refute it at one input. -/
def natBackWrong : ChangeSpec := { name := "natBack", fn := fun _ => fun
  | [d1, d2, d3] => { results := [.lit (.bool false)], args := [d1, d2, d3] }
  | _ => none }
def NatBackWrongFalsely : Prop := natBackRow.holds Try.pinned (OpenSpec.ofChange natBackWrong)

/-- 'mintagelaw02.NatEnds': WHATEVER THE INPUT: true; the input reads as it did. -/
def natEndsSpec : ChangeSpec := { name := "natEnds", fn := fun _ => fun
  | [] => { results := [.lit (.bool true)], args := [] }
  | _ => none }
def natEndsRow : OpenClaim := { program := "ytnddfmjmeghkjaa", sum := "fd876019b0df0d7ad0db7dc3b3fe5e718c63b20506f4dcfc22cbb5a081fd2b52", func := "mintage/mintagelaw02.NatEnds", spec := "natEnds", inPlace := ["math/bits.Sub64", "math/bits.Add64"], named := ["math/bits.divideError", "math/bits.overflowError"], apart := false }
def NatEndsSaid : Prop := natEndsRow.holds Try.pinned (OpenSpec.ofChange natEndsSpec)

/-- ITS FALSE NEIGHBOUR: 'it returns false'. Refute it at one input. -/
def natEndsWrong : ChangeSpec := { name := "natEnds", fn := fun _ => fun
  | [] => { results := [.lit (.bool false)], args := [] }
  | _ => none }
def NatEndsWrongFalsely : Prop := natEndsRow.holds Try.pinned (OpenSpec.ofChange natEndsWrong)

/- THE SECOND FORM. 'bulk': how many values and letters a reading holds, each counted each time it is reached (what is shared counts as often as it is met; a slice's spare places count too). A statement '..UptoSaid' is the law's where the arguments, and the package variables that the reading takes, are together of bulk at most 1048576: NARROWER than '..Said'. Prove '..Said' where nothing that the law and all that it calls make is longer than what came in: it says more and counts as full. Else prove '..UptoSaid'. A law counts once. -/
mutual
def uptoBulk {H : Type} : DataW H → Nat
  | .lit (.string bytes) => bytes.length + 1
  | .lit _ => 1
  | .nil => 1
  | .ptr d => uptoBulk d + 1
  | .slice elems spare => uptoBulkAll elems + uptoBulkAll spare + 1
  | .agg parts => uptoBulkAll parts + 1
  | .iface _ d => uptoBulk d + 1
  | .map entries => uptoBulkEntries entries + 1
  | .held _ => 1
def uptoBulkAll {H : Type} : List (DataW H) → Nat
  | [] => 0
  | d :: r => uptoBulk d + uptoBulkAll r
def uptoBulkEntries {H : Type} : List (Lit × DataW H) → Nat
  | [] => 0
  | x :: r => uptoBulkEntry x + uptoBulkEntries r
def uptoBulkEntry {H : Type} : Lit × DataW H → Nat
  | (.string bytes, d) => bytes.length + uptoBulk d + 1
  | (_, d) => uptoBulk d + 1
 end
def uptoSmall : (H : Type) → List (DataW H) → Bool := fun _ ds => decide (uptoBulkAll ds ≤ 1048576)
def OpenSpec.upto (s : _root_.Go.ChangeSpec) : _root_.Go.OpenSpec := { _root_.Go.OpenSpec.ofChange s with cond := some uptoSmall }

/-- 'mintagelaw02.NatPowers', WHERE WHAT IT READS IS OF BULK AT MOST 1048576: true; the input reads as it did. -/
def natPowersUptoRow : OpenClaim := { program := "ytnddfmjmeghkjaa", sum := "fd876019b0df0d7ad0db7dc3b3fe5e718c63b20506f4dcfc22cbb5a081fd2b52", func := "mintage/mintagelaw02.NatPowers", spec := "natPowers", inPlace := ["math/bits.Add64"], apart := false, narrowed := true }
def NatPowersUptoSaid : Prop := natPowersUptoRow.holds Try.pinned (OpenSpec.upto natPowersSpec)

/-- 'mintagelaw02.NatTexts', WHERE WHAT IT READS IS OF BULK AT MOST 1048576: true; the input reads as it did. -/
def natTextsUptoRow : OpenClaim := { program := "ytnddfmjmeghkjaa", sum := "fd876019b0df0d7ad0db7dc3b3fe5e718c63b20506f4dcfc22cbb5a081fd2b52", func := "mintage/mintagelaw02.NatTexts", spec := "natTexts", inPlace := ["math/bits.Add64"], named := ["math/bits.divideError", "math/bits.overflowError"], apart := false, narrowed := true }
def NatTextsUptoSaid : Prop := natTextsUptoRow.holds Try.pinned (OpenSpec.upto natTextsSpec)

/-- 'mintagelaw02.NatSums', WHERE WHAT IT READS IS OF BULK AT MOST 1048576: true; the input reads as it did. -/
def natSumsUptoRow : OpenClaim := { program := "ytnddfmjmeghkjaa", sum := "fd876019b0df0d7ad0db7dc3b3fe5e718c63b20506f4dcfc22cbb5a081fd2b52", func := "mintage/mintagelaw02.NatSums", spec := "natSums", inPlace := ["math/bits.Add64", "math/bits.Sub64"], apart := false, narrowed := true }
def NatSumsUptoSaid : Prop := natSumsUptoRow.holds Try.pinned (OpenSpec.upto natSumsSpec)

/-- 'mintagelaw02.NatRing', WHERE WHAT IT READS IS OF BULK AT MOST 1048576: true; the input reads as it did. -/
def natRingUptoRow : OpenClaim := { program := "ytnddfmjmeghkjaa", sum := "fd876019b0df0d7ad0db7dc3b3fe5e718c63b20506f4dcfc22cbb5a081fd2b52", func := "mintage/mintagelaw02.NatRing", spec := "natRing", inPlace := ["math/bits.Add64"], apart := false, narrowed := true }
def NatRingUptoSaid : Prop := natRingUptoRow.holds Try.pinned (OpenSpec.upto natRingSpec)

/-- 'mintagelaw02.NatOver', WHERE WHAT IT READS IS OF BULK AT MOST 1048576: true; the input reads as it did. -/
def natOverUptoRow : OpenClaim := { program := "ytnddfmjmeghkjaa", sum := "fd876019b0df0d7ad0db7dc3b3fe5e718c63b20506f4dcfc22cbb5a081fd2b52", func := "mintage/mintagelaw02.NatOver", spec := "natOver", inPlace := ["math/bits.Add64", "math/bits.Sub64"], named := ["math/bits.divideError", "math/bits.overflowError"], apart := false, narrowed := true }
def NatOverUptoSaid : Prop := natOverUptoRow.holds Try.pinned (OpenSpec.upto natOverSpec)

/-- 'mintagelaw02.NatBack', WHERE WHAT IT READS IS OF BULK AT MOST 1048576: true; the input reads as it did. -/
def natBackUptoRow : OpenClaim := { program := "ytnddfmjmeghkjaa", sum := "fd876019b0df0d7ad0db7dc3b3fe5e718c63b20506f4dcfc22cbb5a081fd2b52", func := "mintage/mintagelaw02.NatBack", spec := "natBack", inPlace := ["math/bits.Add64", "math/bits.Sub64"], named := ["math/bits.divideError", "math/bits.overflowError"], apart := false, narrowed := true }
def NatBackUptoSaid : Prop := natBackUptoRow.holds Try.pinned (OpenSpec.upto natBackSpec)

/-- 'mintagelaw02.NatEnds', WHERE WHAT IT READS IS OF BULK AT MOST 1048576: true; the input reads as it did. -/
def natEndsUptoRow : OpenClaim := { program := "ytnddfmjmeghkjaa", sum := "fd876019b0df0d7ad0db7dc3b3fe5e718c63b20506f4dcfc22cbb5a081fd2b52", func := "mintage/mintagelaw02.NatEnds", spec := "natEnds", inPlace := ["math/bits.Sub64", "math/bits.Add64"], named := ["math/bits.divideError", "math/bits.overflowError"], apart := false, narrowed := true }
def NatEndsUptoSaid : Prop := natEndsUptoRow.holds Try.pinned (OpenSpec.upto natEndsSpec)

end Rows
end Go.Proofs.Ytnddfmjmeghkjaa
