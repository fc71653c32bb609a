/-
  No cell of these rows narrows 'for every input' (looked for: loops, veiled, ifaces, maps, wideKeys, modest, calm, conditions, laid).
  DERIVED. THE GIVEN ROWS OF THIS SEAT. 5 by the template 'for every input the law returns true; each argument reads behind the call as it read before'; 0 by the template 'total and deterministic' (their statements: YtgfkagaacdblbaaTotals.lean).
  GIVEN WITH THE SEED: the statements are not yours to turn. If you find one false, say at which input.
  Laid BY PROGRAM, IN A SANDBOX (cutbox-rows.mjs): the forced cells as the released guide's own fill.sh prints them over the translation e11a8ee07060d579… (all of the seat's roots in one cut). By AI agents, Wed Nov 11 2026. No macro, syntax, notation, axiom, sorry.
-/
import Derived.Test.YtgfkagaacdblbaaChecked
import GoSem.Claim
import GoSem.ClaimJoined
import GoSem.ClaimMapViews
import Derived.JoinedTies
import Derived.KernelRfl
namespace Go.Proofs.Ytgfkagaacdblbaa
/- THE CELL 'sum', in the pinned program and in every row, IS THE sha256 OF THE DUMP (.gsa) THAT YtgfkagaacdblbaaProg.lean LOADS. Nothing in Lean hashes anything: it is a label: what it is worth is what the hold of that sum in a sandbox is worth. -/
noncomputable def Try.pinned : Pinned := { name := "ytgfkagaacdblbaa", sum := "e11a8ee07060d5790a5243e9a2853ea44c0bfc7f973ed6de7567631fcf0c7313", checked := Try.checked }
namespace Rows
def none {H : Type} : Left H := { results := [], args := [] }

/-- 'mintagelaw28.GateAlike': WHATEVER THE INPUT: true; the input reads as it did. -/
def gateAlikeSpec : ChangeSpec := { name := "gateAlike", fn := fun _ => fun
  | [d1, d2, d3] => { results := [.lit (.bool true)], args := [d1, d2, d3] }
  | _ => none }
def gateAlikeRow : OpenClaim := { program := "ytgfkagaacdblbaa", sum := "e11a8ee07060d5790a5243e9a2853ea44c0bfc7f973ed6de7567631fcf0c7313", func := "mintage/mintagelaw28.GateAlike", spec := "gateAlike", inPlace := ["math/bits.Add64", "math/bits.Sub64"], unfollowed := true, recurses := true, named := ["math/bits.divideError", "math/bits.overflowError"], apart := false }
def GateAlikeSaid : Prop := gateAlikeRow.holds Try.pinned (OpenSpec.ofChange gateAlikeSpec)

/-- ITS FALSE NEIGHBOUR: 'it returns false'. Refute it at one input. -/
def gateAlikeWrong : ChangeSpec := { name := "gateAlike", fn := fun _ => fun
  | [d1, d2, d3] => { results := [.lit (.bool false)], args := [d1, d2, d3] }
  | _ => none }
def GateAlikeWrongFalsely : Prop := gateAlikeRow.holds Try.pinned (OpenSpec.ofChange gateAlikeWrong)

/-- 'mintagelaw28.GateWaits': WHATEVER THE INPUT: true; the input reads as it did. -/
def gateWaitsSpec : ChangeSpec := { name := "gateWaits", fn := fun _ => fun
  | [d1, d2] => { results := [.lit (.bool true)], args := [d1, d2] }
  | _ => none }
def gateWaitsRow : OpenClaim := { program := "ytgfkagaacdblbaa", sum := "e11a8ee07060d5790a5243e9a2853ea44c0bfc7f973ed6de7567631fcf0c7313", func := "mintage/mintagelaw28.GateWaits", spec := "gateWaits", inPlace := ["math/bits.Add64", "math/bits.Sub64"], unfollowed := true, recurses := true, named := ["math/bits.divideError", "math/bits.overflowError"], apart := false }
def GateWaitsSaid : Prop := gateWaitsRow.holds Try.pinned (OpenSpec.ofChange gateWaitsSpec)

/-- ITS FALSE NEIGHBOUR: 'it returns false'. Refute it at one input. -/
def gateWaitsWrong : ChangeSpec := { name := "gateWaits", fn := fun _ => fun
  | [d1, d2] => { results := [.lit (.bool false)], args := [d1, d2] }
  | _ => none }
def GateWaitsWrongFalsely : Prop := gateWaitsRow.holds Try.pinned (OpenSpec.ofChange gateWaitsWrong)

/-- 'mintagelaw28.GateOnce': WHATEVER THE INPUT: true; the input reads as it did. -/
def gateOnceSpec : ChangeSpec := { name := "gateOnce", fn := fun _ => fun
  | [d1, d2] => { results := [.lit (.bool true)], args := [d1, d2] }
  | _ => none }
def gateOnceRow : OpenClaim := { program := "ytgfkagaacdblbaa", sum := "e11a8ee07060d5790a5243e9a2853ea44c0bfc7f973ed6de7567631fcf0c7313", func := "mintage/mintagelaw28.GateOnce", spec := "gateOnce", inPlace := ["math/bits.Add64", "math/bits.Sub64"], unfollowed := true, recurses := true, named := ["math/bits.divideError", "math/bits.overflowError"], apart := false }
def GateOnceSaid : Prop := gateOnceRow.holds Try.pinned (OpenSpec.ofChange gateOnceSpec)

/-- ITS FALSE NEIGHBOUR: 'it returns false'. Refute it at one input. -/
def gateOnceWrong : ChangeSpec := { name := "gateOnce", fn := fun _ => fun
  | [d1, d2] => { results := [.lit (.bool false)], args := [d1, d2] }
  | _ => none }
def GateOnceWrongFalsely : Prop := gateOnceRow.holds Try.pinned (OpenSpec.ofChange gateOnceWrong)

/-- 'mintagelaw28.GateSetups': WHATEVER THE INPUT: true; the input reads as it did. -/
def gateSetupsSpec : ChangeSpec := { name := "gateSetups", fn := fun _ => fun
  | [] => { results := [.lit (.bool true)], args := [] }
  | _ => none }
def gateSetupsRow : OpenClaim := { program := "ytgfkagaacdblbaa", sum := "e11a8ee07060d5790a5243e9a2853ea44c0bfc7f973ed6de7567631fcf0c7313", func := "mintage/mintagelaw28.GateSetups", spec := "gateSetups", inPlace := ["math/bits.Add64", "math/bits.Sub64"], unfollowed := true, recurses := true, named := ["math/bits.divideError", "math/bits.overflowError"], apart := false }
def GateSetupsSaid : Prop := gateSetupsRow.holds Try.pinned (OpenSpec.ofChange gateSetupsSpec)

/-- ITS FALSE NEIGHBOUR: 'it returns false'. Refute it at one input. -/
def gateSetupsWrong : ChangeSpec := { name := "gateSetups", fn := fun _ => fun
  | [] => { results := [.lit (.bool false)], args := [] }
  | _ => none }
def GateSetupsWrongFalsely : Prop := gateSetupsRow.holds Try.pinned (OpenSpec.ofChange gateSetupsWrong)

/-- 'mintagelaw28.GateGoes': WHATEVER THE INPUT: true; the input reads as it did. -/
def gateGoesSpec : ChangeSpec := { name := "gateGoes", fn := fun _ => fun
  | [d1, d2] => { results := [.lit (.bool true)], args := [d1, d2] }
  | _ => none }
def gateGoesRow : OpenClaim := { program := "ytgfkagaacdblbaa", sum := "e11a8ee07060d5790a5243e9a2853ea44c0bfc7f973ed6de7567631fcf0c7313", func := "mintage/mintagelaw28.GateGoes", spec := "gateGoes", inPlace := ["math/bits.Add64", "math/bits.Sub64"], unfollowed := true, recurses := true, named := ["math/bits.divideError", "math/bits.overflowError"], apart := false }
def GateGoesSaid : Prop := gateGoesRow.holds Try.pinned (OpenSpec.ofChange gateGoesSpec)

/-- ITS FALSE NEIGHBOUR: 'it returns false'. Refute it at one input. -/
def gateGoesWrong : ChangeSpec := { name := "gateGoes", fn := fun _ => fun
  | [d1, d2] => { results := [.lit (.bool false)], args := [d1, d2] }
  | _ => none }
def GateGoesWrongFalsely : Prop := gateGoesRow.holds Try.pinned (OpenSpec.ofChange gateGoesWrong)

/- THE SECOND FORM. 'bulk': how many values and letters a reading holds, each counted each time it is reached (what is shared counts as often as it is met; a slice's spare places count too). A statement '..UptoSaid' is the law's where the arguments, and the package variables that the reading takes, are together of bulk at most 1048576: NARROWER than '..Said'. Prove '..Said' where nothing that the law and all that it calls make is longer than what came in: it says more and counts as full. Else prove '..UptoSaid'. A law counts once. -/
mutual
def uptoBulk {H : Type} : DataW H → Nat
  | .lit (.string bytes) => bytes.length + 1
  | .lit _ => 1
  | .nil => 1
  | .ptr d => uptoBulk d + 1
  | .slice elems spare => uptoBulkAll elems + uptoBulkAll spare + 1
  | .agg parts => uptoBulkAll parts + 1
  | .iface _ d => uptoBulk d + 1
  | .map entries => uptoBulkEntries entries + 1
  | .held _ => 1
def uptoBulkAll {H : Type} : List (DataW H) → Nat
  | [] => 0
  | d :: r => uptoBulk d + uptoBulkAll r
def uptoBulkEntries {H : Type} : List (Lit × DataW H) → Nat
  | [] => 0
  | x :: r => uptoBulkEntry x + uptoBulkEntries r
def uptoBulkEntry {H : Type} : Lit × DataW H → Nat
  | (.string bytes, d) => bytes.length + uptoBulk d + 1
  | (_, d) => uptoBulk d + 1
 end
def uptoSmall : (H : Type) → List (DataW H) → Bool := fun _ ds => decide (uptoBulkAll ds ≤ 1048576)
def OpenSpec.upto (s : _root_.Go.ChangeSpec) : _root_.Go.OpenSpec := { _root_.Go.OpenSpec.ofChange s with cond := some uptoSmall }

/-- 'mintagelaw28.GateAlike', WHERE WHAT IT READS IS OF BULK AT MOST 1048576: true; the input reads as it did. -/
def gateAlikeUptoRow : OpenClaim := { program := "ytgfkagaacdblbaa", sum := "e11a8ee07060d5790a5243e9a2853ea44c0bfc7f973ed6de7567631fcf0c7313", func := "mintage/mintagelaw28.GateAlike", spec := "gateAlike", inPlace := ["math/bits.Add64", "math/bits.Sub64"], unfollowed := true, recurses := true, named := ["math/bits.divideError", "math/bits.overflowError"], apart := false, narrowed := true }
def GateAlikeUptoSaid : Prop := gateAlikeUptoRow.holds Try.pinned (OpenSpec.upto gateAlikeSpec)

/-- 'mintagelaw28.GateWaits', WHERE WHAT IT READS IS OF BULK AT MOST 1048576: true; the input reads as it did. -/
def gateWaitsUptoRow : OpenClaim := { program := "ytgfkagaacdblbaa", sum := "e11a8ee07060d5790a5243e9a2853ea44c0bfc7f973ed6de7567631fcf0c7313", func := "mintage/mintagelaw28.GateWaits", spec := "gateWaits", inPlace := ["math/bits.Add64", "math/bits.Sub64"], unfollowed := true, recurses := true, named := ["math/bits.divideError", "math/bits.overflowError"], apart := false, narrowed := true }
def GateWaitsUptoSaid : Prop := gateWaitsUptoRow.holds Try.pinned (OpenSpec.upto gateWaitsSpec)

/-- 'mintagelaw28.GateOnce', WHERE WHAT IT READS IS OF BULK AT MOST 1048576: true; the input reads as it did. -/
def gateOnceUptoRow : OpenClaim := { program := "ytgfkagaacdblbaa", sum := "e11a8ee07060d5790a5243e9a2853ea44c0bfc7f973ed6de7567631fcf0c7313", func := "mintage/mintagelaw28.GateOnce", spec := "gateOnce", inPlace := ["math/bits.Add64", "math/bits.Sub64"], unfollowed := true, recurses := true, named := ["math/bits.divideError", "math/bits.overflowError"], apart := false, narrowed := true }
def GateOnceUptoSaid : Prop := gateOnceUptoRow.holds Try.pinned (OpenSpec.upto gateOnceSpec)

/-- 'mintagelaw28.GateSetups', WHERE WHAT IT READS IS OF BULK AT MOST 1048576: true; the input reads as it did. -/
def gateSetupsUptoRow : OpenClaim := { program := "ytgfkagaacdblbaa", sum := "e11a8ee07060d5790a5243e9a2853ea44c0bfc7f973ed6de7567631fcf0c7313", func := "mintage/mintagelaw28.GateSetups", spec := "gateSetups", inPlace := ["math/bits.Add64", "math/bits.Sub64"], unfollowed := true, recurses := true, named := ["math/bits.divideError", "math/bits.overflowError"], apart := false, narrowed := true }
def GateSetupsUptoSaid : Prop := gateSetupsUptoRow.holds Try.pinned (OpenSpec.upto gateSetupsSpec)

/-- 'mintagelaw28.GateGoes', WHERE WHAT IT READS IS OF BULK AT MOST 1048576: true; the input reads as it did. -/
def gateGoesUptoRow : OpenClaim := { program := "ytgfkagaacdblbaa", sum := "e11a8ee07060d5790a5243e9a2853ea44c0bfc7f973ed6de7567631fcf0c7313", func := "mintage/mintagelaw28.GateGoes", spec := "gateGoes", inPlace := ["math/bits.Add64", "math/bits.Sub64"], unfollowed := true, recurses := true, named := ["math/bits.divideError", "math/bits.overflowError"], apart := false, narrowed := true }
def GateGoesUptoSaid : Prop := gateGoesUptoRow.holds Try.pinned (OpenSpec.upto gateGoesSpec)

end Rows
end Go.Proofs.Ytgfkagaacdblbaa
