/- walks of math/bits.LeadingZeros64, Div64 -/
import Derived.Test.YtidbonodfmicgaaFe
set_option linter.unusedVariables false
set_option linter.unusedSimpArgs false
set_option maxRecDepth 10000
namespace Go.Proofs.Ytidbonodfmicgaa.W
open Go.Vc Go.RowKit

theorem or_add {a b : Int} (k : Nat) (hk : k ≤ 64) (ha : 0 ≤ a ∧ a * 2 ^ k ≤ 18446744073709551615) (hb : 0 ≤ b ∧ b < 2 ^ k) : bitw .or .u64 (a * 2 ^ k) b = a * 2 ^ k + b := by
  obtain ⟨m, rfl⟩ := Int.eq_ofNat_of_zero_le ha.1
  obtain ⟨c, rfl⟩ := Int.eq_ofNat_of_zero_le hb.1
  have hp : (2 : Nat) ^ k ≤ 2 ^ 64 := Nat.pow_le_pow_right (by omega) hk
  have h64 : (2 : Nat) ^ 64 = 18446744073709551616 := by decide
  have e0 : ((m : Int) * 2 ^ k) = ((m * 2 ^ k : Nat) : Int) := by rw [Int.natCast_mul, Int.natCast_pow]; rfl
  have hc : c < 2 ^ k := by have := hb.2; exact_mod_cast this
  have hm : m * 2 ^ k ≤ 18446744073709551615 := by have := ha.2; rw [e0] at this; exact Int.ofNat_le.1 (show ((m * 2 ^ k : Nat) : Int) ≤ ((18446744073709551615 : Nat) : Int) from this)
  have hdisj : (m * 2 ^ k) ||| c = m * 2 ^ k + c := by
    rw [Nat.mul_comm]; exact (Nat.two_pow_add_eq_or_of_lt hc m).symm
  have hsum : m * 2 ^ k + c < 2 ^ 64 := by
    rw [← hdisj]; exact Nat.or_lt_two_pow (by omega) (by omega)
  show IntKind.u64.wrap _ = _
  have e : (BitVec.ofInt IntKind.u64.bits ((m : Int) * 2 ^ k) ||| BitVec.ofInt IntKind.u64.bits (c : Int)).toNat = m * 2 ^ k + c := by
    show (BitVec.ofInt 64 ((m : Int) * 2 ^ k) ||| BitVec.ofInt 64 (c : Int)).toNat = _
    rw [BitVec.toNat_or, e0, toNat_ofInt64 (by omega), toNat_ofInt64 (by omega), Int.toNat_natCast, Int.toNat_natCast, hdisj]
  rw [e, w_u64 (by omega), e0]
  omega
theorem div_of {n y Q r : Int} (h : n = Q * y + r) (h0 : 0 ≤ r) (h1 : r < y) : n / y = Q ∧ n % y = r := by
  have e1 : n / y = Q := by rw [h, Int.add_comm, Int.add_mul_ediv_right _ _ (by omega), Int.ediv_eq_zero_of_lt h0 h1, Int.zero_add]
  have e2 : n % y = r := by rw [h, Int.add_comm, Int.add_mul_emod_self_right, Int.emod_eq_of_lt h0 h1]
  exact ⟨e1, e2⟩
section
variable {X u a b q rh V : Int}
theorem kn_up (hV : a * 4294967296 + b = V) (h0 : 0 < V) (hq : q * a + rh = X) (h : q * b ≤ 4294967296 * rh + u) : q ≤ (X * 4294967296 + u) / V := by
  rw [Int.le_ediv_iff_mul_le h0, ← hV, Int.mul_add, ← Int.mul_assoc]
  omega
theorem kn_dn (hV : a * 4294967296 + b = V) (h0 : 0 < V) (hq : q * a + rh = X) (h : 4294967296 * rh + u < q * b) : (X * 4294967296 + u) / V < q := by
  refine Int.ediv_lt_of_lt_mul h0 ?_
  rw [← hV, Int.mul_add, ← Int.mul_assoc]
  omega
theorem kn_lt (h0 : 0 < V) (hX : X < V) (hu : 0 ≤ u ∧ u < 4294967296) : (X * 4294967296 + u) / V < 4294967296 := Int.ediv_lt_of_lt_mul h0 (by omega)
theorem kn_start (hV : a * 4294967296 + b = V) (ha : 0 < a) (hb : 0 ≤ b) (hX : 0 ≤ X) (hu : 0 ≤ u ∧ u < 4294967296) : (X * 4294967296 + u) / V ≤ X / a := by
  have h0 : 0 < V := by omega
  rw [Int.le_ediv_iff_mul_le ha]
  have hn : 0 ≤ (X * 4294967296 + u) / V := Int.ediv_nonneg (by omega) (by omega)
  have h1 := Int.ediv_mul_le (X * 4294967296 + u) (show V ≠ 0 by omega)
  generalize (X * 4294967296 + u) / V = t at *
  rw [← hV, Int.mul_add, ← Int.mul_assoc] at h1
  have h2 := Int.mul_nonneg hn hb
  omega
theorem kn_top (hV : a * 4294967296 + b = V) (ha : 2147483648 ≤ a) (hb : b < 4294967296) (hX : X < V) : X / a ≤ 4294967297 := by
  have : X / a < 4294967298 := Int.ediv_lt_of_lt_mul (by omega) (by omega)
  omega
theorem kn_rem (h0 : 0 < V) : 0 ≤ X * 4294967296 + u - (X * 4294967296 + u) / V * V ∧ X * 4294967296 + u - (X * 4294967296 + u) / V * V < V := by
  have e := Int.emod_add_mul_ediv (X * 4294967296 + u) V
  have h1 := Int.emod_nonneg (X * 4294967296 + u) (show V ≠ 0 by omega)
  have h2 := Int.emod_lt_of_pos (X * 4294967296 + u) h0
  have e2 : V * ((X * 4294967296 + u) / V) = (X * 4294967296 + u) / V * V := Int.mul_comm _ _
  omega
end
/-- the quotient of scaled numbers, two digits of it -/
theorem kn_fin {N y D V X u1 u0 q1 q0 R R2 : Int} (hD : 0 < D) (hV : y * D = V) (hN : X * 18446744073709551616 + (u1 * 4294967296 + u0) = N * D) (h1 : R = X * 4294967296 + u1 - q1 * V) (h2 : R2 = R * 4294967296 + u0 - q0 * V) (h0 : 0 ≤ R2) (h3 : R2 < V) :
    N / y = q1 * 4294967296 + q0 ∧ N % y = R2 / D := by
  have e : R2 = (N - (q1 * 4294967296 + q0) * y) * D := by
    rw [Int.sub_mul, ← hN, Int.mul_assoc, hV, Int.add_mul, Int.mul_right_comm]
    omega
  have e2 : R2 / D = N - (q1 * 4294967296 + q0) * y := by rw [e, Int.mul_ediv_cancel _ (by omega)]
  have h4 : 0 ≤ N - (q1 * 4294967296 + q0) * y := by
    rw [← e2]; exact Int.ediv_nonneg h0 (by omega)
  have h5 : N - (q1 * 4294967296 + q0) * y < y := by
    rw [← e2]
    exact Int.ediv_lt_of_lt_mul hD (by omega)
  have := div_of (n := N) (y := y) (Q := q1 * 4294967296 + q0) (r := R2 / D) (by rw [e2]; omega) (by omega) (by omega)
  exact this
/-- a double word moved up: its parts -/
theorem scaled {hi lo : Int} {k : Nat} (hk : k ≤ 64) : (hi * 2 ^ k + lo / 2 ^ (64 - k)) * 18446744073709551616 + lo * 2 ^ k % 18446744073709551616 = (hi * 18446744073709551616 + lo) * 2 ^ k := by
  have hp : (2 : Int) ^ (64 - k) * 2 ^ k = 18446744073709551616 := by rw [← Int.pow_add, show 64 - k + k = 64 from by omega]; rfl
  have e : lo * 2 ^ k / 18446744073709551616 = lo / 2 ^ (64 - k) := by
    rw [← hp]; exact Int.mul_ediv_mul_of_pos_left _ _ (Ma.pow_pos (by omega) k)
  have := Int.emod_add_mul_ediv (lo * 2 ^ k) 18446744073709551616
  rw [e] at this
  rw [Int.add_mul, Int.add_mul, Int.mul_right_comm]
  omega

end Go.Proofs.Ytidbonodfmicgaa.W
