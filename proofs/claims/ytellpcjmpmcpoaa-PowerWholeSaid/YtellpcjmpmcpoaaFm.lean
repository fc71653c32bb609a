/- walks of nat.less, Sub -/
import Derived.Test.YtellpcjmpmcpoaaFl
import Derived.Test.YtellpcjmpmcpoaaRe
import Derived.Test.YtellpcjmpmcpoaaVe
set_option linter.unusedVariables false
set_option linter.unusedSimpArgs false
set_option maxRecDepth 10000
namespace Go.Proofs.Ytellpcjmpmcpoaa.W
open Go.Vc Go.RowKit

/-- one place of a difference -/
theorem diff_place {W p S A C x y c s d : Int} (h : S = A - C + p * c) (h1 : s = x - y - c + W * d) : S + p * s = (A + p * x) - (C + p * y) + p * W * d := by
  rw [h, h1, Int.mul_add, Int.mul_sub, Int.mul_sub, ← Int.mul_assoc]
  omega
theorem sub64_eq {x y c : Int} (hx : 0 ≤ x ∧ x ≤ 18446744073709551615) (hy : 0 ≤ y ∧ y ≤ 18446744073709551615) (hc : 0 ≤ c ∧ c ≤ 1) : (x - y - c) % 18446744073709551616 = x - y - c + 18446744073709551616 * (if x < y + c then 1 else 0) := by
  split <;> omega
theorem bor_01 {x y : Int} : 0 ≤ (if x < y then (1 : Int) else 0) ∧ (if x < y then (1 : Int) else 0) ≤ 1 := by split <;> omega

end Go.Proofs.Ytellpcjmpmcpoaa.W
