/- walks of nat.shr, Shr -/
import Derived.Test.YtidbonodfmicgaaFk
set_option linter.unusedVariables false
set_option linter.unusedSimpArgs false
set_option maxRecDepth 10000
namespace Go.Proofs.Ytidbonodfmicgaa.W
open Go.Vc Go.RowKit

theorem or_high {x b : Int} {k : Nat} (hk : k ≤ 64) (hb : 0 ≤ b ∧ b < 2 ^ (64 - k)) : bitw .or .u64 b (x * 2 ^ (64 - k) % 18446744073709551616) = b + x % 2 ^ k * 2 ^ (64 - k) := by
  have := or_low (x := x) (b := b) (k := 64 - k) (by omega) hb
  rwa [show 64 - (64 - k) = k from by omega] at this
theorem high_lt {x : Int} {k : Nat} (hk : k ≤ 64) : 0 ≤ x % 2 ^ k ∧ x % 2 ^ k * 2 ^ (64 - k) + 2 ^ (64 - k) ≤ 18446744073709551616 := by
  have := shl_low_lt (x := x) (k := 64 - k) (by omega)
  rwa [show 64 - (64 - k) = k from by omega] at this
/-- what a number moved down is told as -/
def shrS (x n : Int) : Int × Int × Bool := if 8192 < Ma.blen x then (21, 0, false) else if n < 0 then (23, 0, false) else (0, x / 2 ^ n.toNat, decide (¬ x % 2 ^ n.toNat = 0))
/-- what tells a number, whether something was lost, and an error -/
def LostR (w w' : World) (r : Value) (e n : Int) (b : Bool) : Prop := ∃ v ls, r = .tuple #[v, .bool b, .int .i64 e] ∧ Ma.Cn 18446744073709551616 ls n ∧ Grow w w' [As.ri 24 .u64 v ls]

end Go.Proofs.Ytidbonodfmicgaa.W
