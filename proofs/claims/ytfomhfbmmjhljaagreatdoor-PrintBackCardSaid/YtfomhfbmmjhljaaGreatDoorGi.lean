/- walk of the law BitsOrder -/
import Derived.Test.YtfomhfbmmjhljaaGreatDoorGg
set_option linter.unusedVariables false
set_option linter.unusedSimpArgs false
set_option maxRecDepth 10000
namespace Go.Proofs.YtfomhfbmmjhljaaGreatDoor.W
open Go.Vc Go.RowKit
theorem and_i1 {n : Int} (h : -9223372036854775808 ≤ n ∧ n ≤ 9223372036854775807) : bitw .and .i64 n 1 = n % 2 := by
 have e : (BitVec.ofInt IntKind.i64.bits n &&& BitVec.ofInt IntKind.i64.bits 1).toNat = (n % 18446744073709551616).toNat % 2 := by
  show (BitVec.ofInt 64 n &&& BitVec.ofInt 64 1).toNat = _
  rw [BitVec.toNat_and, BitVec.toNat_ofInt, BitVec.toNat_ofInt]
  exact Nat.and_two_pow_sub_one_eq_mod (n % 18446744073709551616).toNat 1
 show IntKind.i64.wrap _ = _
 rw [e, Z0i ZO]
 omega
theorem kd_fit (n : Int) : ∃ d, kd (9 + n % 2) = some d := by
 rcases (show n % 2 = 0 ∨ n % 2 = 1 by omega) with h | h <;> rw [h]
 ·exact ⟨.f32, rfl⟩
 exact ⟨.f64, rfl⟩
theorem fit_bd {k a : Int} {d : Kd} (hk : kd k = some d) (ha : 0 ≤ a ∧ a ≤ 18446744073709551615) : 0 ≤ (if k = 9 then a % 4294967296 else a) ∧ (if k = 9 then a % 4294967296 else a) < 2 * d.S := by
 rcases Z2K hk with ⟨rfl, rfl⟩ | ⟨rfl, rfl⟩
 ·show 0 ≤ a % 4294967296 ∧ a % 4294967296 < 2 * 2147483648; omega
 show 0 ≤ a ∧ a < 2 * 9223372036854775808; omega
end Go.Proofs.YtfomhfbmmjhljaaGreatDoor.W
