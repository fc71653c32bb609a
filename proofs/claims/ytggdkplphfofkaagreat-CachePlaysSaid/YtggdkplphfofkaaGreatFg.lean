/- walks of math/bits.LeadingZeros64, Div64 -/
import Derived.Test.YtggdkplphfofkaaGreatFf
set_option linter.unusedVariables false
set_option linter.unusedSimpArgs false
set_option maxRecDepth 10000
namespace Go.Proofs.YtggdkplphfofkaaGreat.W
open Go.Vc Go.RowKit
theorem or_add {a b : Int} (k : Nat) (hk : k ≤ 64) (ha : 0 ≤ a ∧ a * 2 ^ k ≤ 18446744073709551615) (hb : 0 ≤ b ∧ b < 2 ^ k) : bitw .or .u64 (a * 2 ^ k) b = a * 2 ^ k + b := by
 obtain ⟨m, rfl⟩ := Int.eq_ofNat_of_zero_le ha.1
 obtain ⟨c, rfl⟩ := Int.eq_ofNat_of_zero_le hb.1
 have hp : (2 : Nat) ^ k ≤ 2 ^ 64 := Nat.pow_le_pow_right (by omega) hk
 have h64 : (2 : Nat) ^ 64 = 18446744073709551616 := by decide
 have e0 : ((m : Int) * 2 ^ k) = ((m * 2 ^ k : Nat) : Int) := by rw [Int.natCast_mul, Int.natCast_pow]; rfl
 have hc : c < 2 ^ k := by have := hb.2; exact_mod_cast this
 have hm : m * 2 ^ k ≤ 18446744073709551615 := by have := ha.2; rw [e0] at this; exact Int.ofNat_le.1 (show ((m * 2 ^ k : Nat) : Int) ≤ ((18446744073709551615 : Nat) : Int) from this)
 have hdisj : (m * 2 ^ k) ||| c = m * 2 ^ k + c := by
  rw [Nat.mul_comm]; exact (Nat.two_pow_add_eq_or_of_lt hc m).symm
 have hsum : m * 2 ^ k + c < 2 ^ 64 := by
  rw [← hdisj]; exact Nat.or_lt_two_pow (by omega) (by omega)
 show IntKind.u64.wrap _ = _
 have e : (BitVec.ofInt IntKind.u64.bits ((m : Int) * 2 ^ k) ||| BitVec.ofInt IntKind.u64.bits (c : Int)).toNat = m * 2 ^ k + c := by
  show (BitVec.ofInt 64 ((m : Int) * 2 ^ k) ||| BitVec.ofInt 64 (c : Int)).toNat = _
  rw [BitVec.toNat_or, e0, toNat_ofInt64 (by omega), toNat_ofInt64 (by omega), Int.toNat_natCast, Int.toNat_natCast, hdisj]
 rw [e, w_u64 (by omega), e0]
 omega
theorem div_of {n y Q r : Int} (h : n = Q * y + r) (h0 : 0 ≤ r) (h1 : r < y) : n / y = Q ∧ n % y = r := by
 have e1 : n / y = Q := by rw [h, Int.add_comm, Int.add_mul_ediv_right _ _ (by omega), Int.ediv_eq_zero_of_lt h0 h1, Int.zero_add]
 have e2 : n % y = r := by rw [h, Int.add_comm, Int.add_mul_emod_self_right, Int.emod_eq_of_lt h0 h1]
 exact ⟨e1, e2⟩
section
variable {X u a b q rh V : Int}
theorem kn_up (hV : a * 4294967296 + b = V) (h0 : 0 < V) (hq : q * a + rh = X) (h : q * b ≤ 4294967296 * rh + u) : q ≤ (X * 4294967296 + u) / V := by
 rw [Int.le_ediv_iff_mul_le h0, ← hV, Int.mul_add, ← Int.mul_assoc]
 omega
theorem kn_dn (hV : a * 4294967296 + b = V) (h0 : 0 < V) (hq : q * a + rh = X) (h : 4294967296 * rh + u < q * b) : (X * 4294967296 + u) / V < q := by
 refine Int.ediv_lt_of_lt_mul h0 ?_
 rw [← hV, Int.mul_add, ← Int.mul_assoc]
 omega
theorem kn_lt (h0 : 0 < V) (hX : X < V) (hu : 0 ≤ u ∧ u < 4294967296) : (X * 4294967296 + u) / V < 4294967296 := Int.ediv_lt_of_lt_mul h0 (by omega)
theorem kn_start (hV : a * 4294967296 + b = V) (ha : 0 < a) (hb : 0 ≤ b) (hX : 0 ≤ X) (hu : 0 ≤ u ∧ u < 4294967296) : (X * 4294967296 + u) / V ≤ X / a := by
 have h0 : 0 < V := by omega
 rw [Int.le_ediv_iff_mul_le ha]
 have hn : 0 ≤ (X * 4294967296 + u) / V := Int.ediv_nonneg (by omega) (by omega)
 have h1 := Int.ediv_mul_le (X * 4294967296 + u) (show V ≠ 0 by omega)
 generalize (X * 4294967296 + u) / V = t at *
 rw [← hV, Int.mul_add, ← Int.mul_assoc] at h1
 have h2 := Int.mul_nonneg hn hb
 omega
theorem kn_top (hV : a * 4294967296 + b = V) (ha : 2147483648 ≤ a) (hb : b < 4294967296) (hX : X < V) : X / a ≤ 4294967297 := by
 have : X / a < 4294967298 := Int.ediv_lt_of_lt_mul (by omega) (by omega)
 omega
theorem kn_rem (h0 : 0 < V) : 0 ≤ X * 4294967296 + u - (X * 4294967296 + u) / V * V ∧ X * 4294967296 + u - (X * 4294967296 + u) / V * V < V := by
 have e := Int.emod_add_mul_ediv (X * 4294967296 + u) V
 have h1 := Int.emod_nonneg (X * 4294967296 + u) (show V ≠ 0 by omega)
 have h2 := Int.emod_lt_of_pos (X * 4294967296 + u) h0
 have e2 : V * ((X * 4294967296 + u) / V) = (X * 4294967296 + u) / V * V := Int.mul_comm _ _
 omega
end
theorem kn_fin {N y D V X u1 u0 q1 q0 R R2 : Int} (hD : 0 < D) (hV : y * D = V) (hN : X * 18446744073709551616 + (u1 * 4294967296 + u0) = N * D) (h1 : R = X * 4294967296 + u1 - q1 * V) (h2 : R2 = R * 4294967296 + u0 - q0 * V) (h0 : 0 ≤ R2) (h3 : R2 < V) :
  N / y = q1 * 4294967296 + q0 ∧ N % y = R2 / D := by
 have e : R2 = (N - (q1 * 4294967296 + q0) * y) * D := by
  rw [Int.sub_mul, ← hN, Int.mul_assoc, hV, Int.add_mul, Int.mul_right_comm]
  omega
 have e2 : R2 / D = N - (q1 * 4294967296 + q0) * y := by rw [e, Int.mul_ediv_cancel _ (by omega)]
 have h4 : 0 ≤ N - (q1 * 4294967296 + q0) * y := by
  rw [← e2]; exact Int.ediv_nonneg h0 (by omega)
 have h5 : N - (q1 * 4294967296 + q0) * y < y := by
  rw [← e2]
  exact Int.ediv_lt_of_lt_mul hD (by omega)
 have := div_of (n := N) (y := y) (Q := q1 * 4294967296 + q0) (r := R2 / D) (by rw [e2]; omega) (by omega) (by omega)
 exact this
theorem scaled {hi lo : Int} {k : Nat} (hk : k ≤ 64) : (hi * 2 ^ k + lo / 2 ^ (64 - k)) * 18446744073709551616 + lo * 2 ^ k % 18446744073709551616 = (hi * 18446744073709551616 + lo) * 2 ^ k := by
 have hp : (2 : Int) ^ (64 - k) * 2 ^ k = 18446744073709551616 := by rw [← Int.pow_add, show 64 - k + k = 64 from by omega]; rfl
 have e : lo * 2 ^ k / 18446744073709551616 = lo / 2 ^ (64 - k) := by
  rw [← hp]; exact Int.mul_ediv_mul_of_pos_left _ _ (Ma.pow_pos (by omega) k)
 have := Int.emod_add_mul_ediv (lo * 2 ^ k) 18446744073709551616
 rw [e] at this
 rw [Int.add_mul, Int.add_mul, Int.mul_right_comm]
 omega
theorem lz64 (x : Int) (hx : 0 ≤ x ∧ x ≤ 18446744073709551615) (w : World) :
  CallsV P 100 [.int .u64 x] w fun r w' => r = .int .i64 (64 - Ma.blen x) ∧ w = w' := by
 refine enterW Tryz.func100 rfl Tryz.ntmps100 rfl ?_
 have hb0 := Ma.blen_nonneg x
 have hb1 := (Ma.blen_le_iff hx.1 64).2 (by omega)
 refine c_seq (c_region (l_assign rfl rfl rfl (l_nil (e_then ?_))))
 refine c_keep [0] (.cons rfl .nil) ?_
 refine c_seq (c_region (l_move rfl rfl rfl ?_))
 refine l_callp rfl rfl Tryz.func83 rfl rfl (.cons rfl .nil) (len64 _ hx _) ?_
 refine l_sub rfl rfl rfl rfl (w_i64 (by omega)) ?_
 refine l_assign rfl rfl rfl (l_nil (e_then ?_))
 refine c_keep [2] (.cons rfl .nil) ?_
 refine c_ret ?_
 refine e_done1 Tryz.results100 rfl ?_
 refine ⟨_, rfl, ?_⟩
 exact ⟨rfl, rfl⟩
theorem div64 (hi lo y : Int) (hhi : 0 ≤ hi ∧ hi < y) (hlo : 0 ≤ lo ∧ lo ≤ 18446744073709551615) (hy : y ≤ 18446744073709551615) (w : World) :
  CallsV P 99 [.int .u64 hi, .int .u64 lo, .int .u64 y] w fun r w' => r = .tuple #[.int .u64 ((hi * 18446744073709551616 + lo) / y), .int .u64 ((hi * 18446744073709551616 + lo) % y)] ∧ Grow w w' [] := by
 refine enterW Tryz.func99 rfl Tryz.ntmps99 rfl ?_
 have hw0 := St.start w
 refine c_seq (c_region (l_assign rfl rfl rfl (l_assign rfl rfl rfl (l_nil (e_then ?_)))))
 refine c_keep [0, 1, 2] (.cons rfl (.cons rfl (.cons rfl .nil))) ?_
 refine c_seq (c_seq (c_region (l_move rfl rfl rfl ?_)))
 refine l_eql rfl rfl rfl rfl ?_
 refine l_nil (e_then ?_)
 refine c_keep [0, 1, 2, 20] (.cons rfl (.cons rfl (.cons rfl (.cons rfl .nil)))) ?_
 first | refine c_cond rfl (fun hc0 => ?_) (fun hc0 => ?_) | refine c_condb rfl (fun hc0 => ?_) (fun hc0 => ?_)
 ·skip
  exact absurd hc0 (by omega)
 ·skip
  refine c_skip (e_then ?_)
  refine c_keep [0, 1, 2] (.cons rfl (.cons rfl (.cons rfl .nil))) ?_
  refine c_seq (c_seq (c_region (l_move rfl rfl rfl (l_move rfl rfl rfl ?_))))
  refine l_leq rfl rfl rfl rfl ?_
  refine l_nil (e_then ?_)
  refine c_keep [0, 1, 2, 24] (.cons rfl (.cons rfl (.cons rfl (.cons rfl .nil)))) ?_
  first | refine c_cond rfl (fun hc1 => ?_) (fun hc1 => ?_) | refine c_condb rfl (fun hc1 => ?_) (fun hc1 => ?_)
  ·skip
   exact absurd hc1 (by omega)
  ·skip
   refine c_skip (e_then ?_)
   refine c_keep [0, 1, 2] (.cons rfl (.cons rfl (.cons rfl .nil))) ?_
   refine c_seq (c_seq (c_region (l_move rfl rfl rfl ?_)))
   refine l_eql rfl rfl rfl rfl ?_
   refine l_nil (e_then ?_)
   refine c_keep [0, 1, 2, 27] (.cons rfl (.cons rfl (.cons rfl (.cons rfl .nil)))) ?_
   first | refine c_cond rfl (fun hc2 => ?_) (fun hc2 => ?_) | refine c_condb rfl (fun hc2 => ?_) (fun hc2 => ?_)
   ·skip
    refine c_seq ?_
    refine c_still (by kernel_rfl) (by kernel_rfl) ?_
    have hw1 := hw0.drewn
    try clear hw0
    refine l_move rfl rfl rfl (l_move rfl rfl rfl ?_)
    refine l_quo rfl rfl rfl rfl (by omega) (q_u64 (by omega)) ?_
    refine l_move rfl rfl rfl (l_move rfl rfl rfl ?_)
    refine l_rem rfl rfl rfl rfl (by omega) (r_pos (by omega)) ?_
    refine l_assign rfl rfl rfl (l_assign rfl rfl rfl (l_nil (e_then ?_)))
    refine c_keep [6, 7] (.cons rfl (.cons rfl .nil)) ?_
    refine c_ret ?_
    refine e_then_ret ?_
    refine e_done2 Tryz.results99 rfl rfl ?_
    refine ⟨_, rfl, ?_⟩
    subst hc2
    exact ⟨by simp, hw1.grows⟩
   ·skip
    refine c_skip (e_then ?_)
    refine c_keep [0, 1, 2] (.cons rfl (.cons rfl (.cons rfl .nil))) ?_
    refine c_seq (c_region (l_move rfl rfl rfl ?_))
    refine l_callp rfl rfl Tryz.func100 rfl rfl (.cons rfl .nil) (lz64 _ (by omega) _) ?_
    obtain ⟨m, hm, hm1, hm2⟩ := Ma.blen_spec (n := y) (by omega)
    have hm63 : m < 64 := by
     have := (Ma.blen_le_iff (n := y) (by omega) 64).2 (by omega)
     omega
    obtain ⟨k, hk⟩ : ∃ k : Nat, k = 63 - m := ⟨_, rfl⟩
    have hD0 := Ma.pow_pos (show (0 : Int) < 2 by omega) k
    have hDD0 := Ma.pow_pos (show (0 : Int) < 2 by omega) (64 - k)
    refine l_turn (s := 35) (v' := .int .i64 ((k : Nat) : Int)) rfl (by rw [hm]; refine congrArg (Value.int _) ?_; omega) ?_
    refine l_conv rfl rfl Tryz.underlying3 Tryz.underlying118 rfl (w_u64 (by omega)) ?_
    refine l_assign rfl rfl rfl (l_nil (e_then ?_))
    refine c_keep [0, 1, 2, 8] (.cons rfl (.cons rfl (.cons rfl (.cons rfl .nil)))) ?_
    refine c_seq (c_region ?_)
    have hV1 : 9223372036854775808 ≤ y * 2 ^ k := by
     have : (2 : Int) ^ m * 2 ^ k ≤ y * 2 ^ k := Int.mul_le_mul_of_nonneg_right hm1 (by omega)
     rw [← Int.pow_add, show m + k = 63 from by omega] at this
     omega
    have hV2 : y * 2 ^ k ≤ 18446744073709551615 := by
     have : (y + 1) * 2 ^ k ≤ 2 ^ (m + 1) * 2 ^ k := Int.mul_le_mul_of_nonneg_right (by omega) (by omega)
     rw [← Int.pow_add, show m + 1 + k = 64 from by omega, Int.add_mul] at this
     omega
    have hDk : (2 : Int) ^ (min ((k : Nat) : Int).toNat IntKind.u64.bits) = 2 ^ k := by
     show (2 : Int) ^ (min ((k : Nat) : Int).toNat 64) = 2 ^ k
     rw [Int.toNat_natCast, Nat.min_eq_left (show k ≤ 64 by omega)]
    have hDDk : (2 : Int) ^ (min (64 - ((k : Nat) : Int)).toNat IntKind.u64.bits) = 2 ^ (64 - k) := by
     show (2 : Int) ^ (min (64 - ((k : Nat) : Int)).toNat 64) = 2 ^ (64 - k)
     rw [show (64 - ((k : Nat) : Int)).toNat = 64 - k from by omega, Nat.min_eq_left (show 64 - k ≤ 64 by omega)]
    have hhD : 0 ≤ hi * 2 ^ k := Int.mul_nonneg hhi.1 (by omega)
    have hhD1 : hi * 2 ^ k + 2 ^ k ≤ y * 2 ^ k := by
     have : (hi + 1) * 2 ^ k ≤ y * 2 ^ k := Int.mul_le_mul_of_nonneg_right (by omega) (by omega)
     rw [Int.add_mul, Int.one_mul] at this
     exact this
    have hp : (2 : Int) ^ k * 2 ^ (64 - k) = 18446744073709551616 := by rw [← Int.pow_add, show k + (64 - k) = 64 from by omega]; rfl
    have hlD0 : 0 ≤ lo / 2 ^ (64 - k) := Int.ediv_nonneg hlo.1 (by omega)
    have hlD1 : lo / 2 ^ (64 - k) < 2 ^ k := Int.ediv_lt_of_lt_mul hDD0 (by omega)
    have hsc := scaled (hi := hi) (lo := lo) (k := k) (by omega)
    refine l_move rfl rfl rfl (l_move rfl rfl rfl ?_)
    refine l_shl rfl rfl rfl rfl (by omega) (shl_eq hDk (w_u64 (by omega))) ?_
    refine l_assign rfl rfl rfl (l_nil (e_then ?_))
    refine c_keep [0, 1, 2, 8] (.cons rfl (.cons rfl (.cons rfl (.cons rfl .nil)))) ?_
    refine c_seq (c_region (l_move rfl rfl rfl ?_))
    refine l_shr rfl rfl rfl rfl (by omega) (shr_eq (d := 4294967296) (by decide) (by decide)) ?_
    refine l_assign rfl rfl rfl (l_nil (e_then ?_))
    refine c_keep [0, 1, 2, 8, 9] (.cons rfl (.cons rfl (.cons rfl (.cons rfl (.cons rfl .nil))))) ?_
    refine c_seq (c_region (l_move rfl rfl rfl ?_))
    refine l_bits rfl rfl rfl rfl rfl (and_mask 32 (d := 4294967296) (by omega) (by omega) (by decide) (by decide)) ?_
    refine l_assign rfl rfl rfl (l_nil (e_then ?_))
    refine c_keep [0, 1, 2, 8, 9, 10] (.cons rfl (.cons rfl (.cons rfl (.cons rfl (.cons rfl (.cons rfl .nil)))))) ?_
    refine c_seq (c_region (l_move rfl rfl rfl (l_move rfl rfl rfl ?_)))
    refine l_shl rfl rfl rfl rfl (by omega) (shl_eq hDk (w_u64 (by omega))) ?_
    refine l_move rfl rfl rfl (l_move rfl rfl rfl ?_)
    refine l_sub rfl rfl rfl rfl (w_u64 (by omega)) ?_
    refine l_shr rfl rfl rfl rfl (by omega) (shr_eq hDDk (by omega)) ?_
    refine l_bits rfl rfl rfl rfl rfl (or_add k (by omega) (by omega) (by omega)) ?_
    refine l_assign rfl rfl rfl (l_nil (e_then ?_))
    refine c_keep [1, 2, 8, 9, 10, 11] (.cons rfl (.cons rfl (.cons rfl (.cons rfl (.cons rfl (.cons rfl .nil)))))) ?_
    refine c_seq (c_region (l_move rfl rfl rfl (l_move rfl rfl rfl ?_)))
    refine l_shl rfl rfl rfl rfl (by omega) (shl_eq hDk (w_u64m _)) ?_
    refine l_assign rfl rfl rfl (l_nil (e_then ?_))
    refine c_keep [2, 8, 9, 10, 11, 12] (.cons rfl (.cons rfl (.cons rfl (.cons rfl (.cons rfl (.cons rfl .nil)))))) ?_
    refine c_seq (c_region (l_move rfl rfl rfl ?_))
    refine l_shr rfl rfl rfl rfl (by omega) (shr_eq (d := 4294967296) (by decide) (by decide)) ?_
    refine l_assign rfl rfl rfl (l_nil (e_then ?_))
    refine c_keep [2, 8, 9, 10, 11, 12, 13] (.cons rfl (.cons rfl (.cons rfl (.cons rfl (.cons rfl (.cons rfl (.cons rfl .nil))))))) ?_
    refine c_seq (c_region (l_move rfl rfl rfl ?_))
    refine l_bits rfl rfl rfl rfl rfl (and_mask 32 (d := 4294967296) (by omega) (by omega) (by decide) (by decide)) ?_
    refine l_assign rfl rfl rfl (l_nil (e_then ?_))
    refine c_keep [2, 8, 9, 10, 11, 13, 14] (.cons rfl (.cons rfl (.cons rfl (.cons rfl (.cons rfl (.cons rfl (.cons rfl .nil))))))) ?_
    refine c_seq (c_region ?_)
    obtain ⟨V, hVd⟩ : ∃ V, y * 2 ^ k = V := ⟨_, rfl⟩
    obtain ⟨X, hXd⟩ : ∃ X, hi * 2 ^ k + lo / 2 ^ (64 - k) = X := ⟨_, rfl⟩
    obtain ⟨Z, hZd⟩ : ∃ Z, lo * 2 ^ k % 18446744073709551616 = Z := ⟨_, rfl⟩
    have hX0 : 0 ≤ X ∧ X < V := by omega
    have hZ0 : 0 ≤ Z ∧ Z < 18446744073709551616 := by omega
    rw [hVd] at hV1 hV2 ⊢
    rw [hXd] at hsc ⊢
    rw [hZd] at hsc ⊢
    have hVe : V / 4294967296 * 4294967296 + V % 4294967296 = V := by omega
    have hZe : Z / 4294967296 * 4294967296 + Z % 4294967296 = Z := by omega
    have ha : 2147483648 ≤ V / 4294967296 ∧ V / 4294967296 < 4294967296 := by omega
    have hb : 0 ≤ V % 4294967296 ∧ V % 4294967296 < 4294967296 := by omega
    have hu1 : 0 ≤ Z / 4294967296 ∧ Z / 4294967296 < 4294967296 := by omega
    have hu0 : 0 ≤ Z % 4294967296 ∧ Z % 4294967296 < 4294967296 := by omega
    rw [← hZe] at hsc
    clear hhD hhD1 hlD0 hlD1 hXd hZd hZe hZ0 hp hDD0 hDDk hm1 hm2
    generalize V / 4294967296 = a at *
    generalize V % 4294967296 = b at *
    generalize Z / 4294967296 = u1 at *
    generalize Z % 4294967296 = u0 at *
    have hXa := Int.ediv_mul_le X (show a ≠ 0 by omega)
    have hXa0 : 0 ≤ X / a * a := Int.mul_nonneg (Int.ediv_nonneg hX0.1 (by omega)) (by omega)
    have hXa1 : X - X / a * a < a := by
     have := Int.emod_lt_of_pos X (show 0 < a by omega)
     have e := Int.emod_add_mul_ediv X a
     rw [Int.mul_comm] at e
     omega
    have hXq := Int.ediv_nonneg hX0.1 (show 0 ≤ a by omega)
    refine l_move rfl rfl rfl (l_move rfl rfl rfl ?_)
    refine l_quo rfl rfl rfl rfl (by omega) (q_u64 (by omega)) ?_
    refine l_assign rfl rfl rfl (l_nil (e_then ?_))
    refine c_keep [2, 8, 9, 10, 11, 13, 14, 15] (.cons rfl (.cons rfl (.cons rfl (.cons rfl (.cons rfl (.cons rfl (.cons rfl (.cons rfl .nil)))))))) ?_
    refine c_seq (c_region (l_move rfl rfl rfl (l_move rfl rfl rfl (l_move rfl rfl rfl ?_))))
    refine l_mul rfl rfl rfl rfl (w_u64 (by omega)) ?_
    refine l_sub rfl rfl rfl rfl (w_u64 (by omega)) ?_
    refine l_assign rfl rfl rfl (l_nil (e_then ?_))
    refine c_keep [2, 8, 9, 10, 11, 13, 14, 15, 16] (.cons rfl (.cons rfl (.cons rfl (.cons rfl (.cons rfl (.cons rfl (.cons rfl (.cons rfl (.cons rfl .nil))))))))) ?_
    refine c_cutk (ι := Int) (fun (q1 : Int) (w' : World) => St w w.heap.size None' ([]) w' ∧ q1 = (X * 4294967296 + u1) / V) (fun (q1 : Int) => [(15, .int .u64 q1)]) [2, 8, 9, 10, 11, 13, 14] (.cons rfl (.cons rfl (.cons rfl (.cons rfl (.cons rfl (.cons rfl (.cons rfl .nil))))))) ?_ ?_
    ·skip
     refine c_block ?_
     refine c_loopk (ι := Int × Int) (fun (z0 : Int × Int) => match z0 with | ⟨q, rh⟩ => q.toNat) (fun (z0 : Int × Int) (w' : World) => match z0 with | ⟨q, rh⟩ => St w w.heap.size None' ([]) w' ∧ 0 ≤ q ∧ q ≤ 4294967297 ∧ 0 ≤ rh ∧ rh < 4294967296 ∧ q * a + rh = X ∧ (X * 4294967296 + u1) / V ≤ q) (fun (z0 : Int × Int) => match z0 with | ⟨q, rh⟩ => [(15, .int .u64 q), (16, .int .u64 rh)]) [2, 8, 9, 10, 11, 13, 14] (X / a, X - X / a * a) ?_ (.cons rfl (.cons rfl (.cons rfl (.cons rfl (.cons rfl (.cons rfl (.cons rfl .nil))))))) ?_ ?_
     ·exact ⟨hw0, Int.ediv_nonneg (by omega) (by omega), kn_top hVe (by omega) (by omega) (by omega), by omega, by omega, by omega, kn_start hVe (by omega) (by omega) (by omega) (by omega)⟩
     ·exact (.cons rfl (by first | rfl | (refine congrArg (Value.int _) ?_; omega)) (.cons rfl (by first | rfl | (refine congrArg (Value.int _) ?_; omega)) .nil))
     rintro ⟨q, rh⟩ w2 ⟨hw2, hq0, hq1, hr0, hr1, hqa, hqt⟩
     show RunC P _ _ _ (_ :: _) _
     have hsub : (q - 1) * a = q * a - a := by rw [Int.sub_mul, Int.one_mul]
     have hltq := kn_lt (X := X) (u := u1) (V := V) (by omega) (by omega) (by omega)
     have hqn : 0 ≤ (X * 4294967296 + u1) / V := Int.ediv_nonneg (by omega) (by omega)
     refine c_seq (c_seq (c_region (l_move rfl rfl rfl ?_)))
     refine l_geq rfl rfl rfl rfl ?_
     refine l_move rfl rfl rfl ?_
     apply l_or 8 [2, 8, 9, 10, 11, 13, 14, 15, 16] rfl rfl (.cons rfl (.cons rfl (.cons rfl (.cons rfl (.cons rfl (.cons rfl (.cons rfl (.cons rfl (.cons rfl (.cons rfl .nil)))))))))) rfl rfl (fun _ => rfl) rfl rfl rfl
     ·intro hg17_3
      have hqb := mul_lt (a := q) (b := b) (x := 4294967296) (y := 4294967296) (by omega) (by omega)
      refine l_move rfl rfl rfl (l_move rfl rfl rfl ?_)
      refine l_mul rfl rfl rfl rfl (w_u64 (by omega)) ?_
      refine l_move rfl rfl rfl ?_
      refine l_mul rfl rfl rfl rfl (w_u64 (by omega)) ?_
      refine l_move rfl rfl rfl ?_
      refine l_add rfl rfl rfl rfl (w_u64 (by omega)) ?_
      refine l_gtr rfl rfl rfl rfl ?_
      refine l_nil ?_
      exact e_stays rfl (.cons rfl (congrArg Value.bool (decide_eq_false hg17_3).symm) (.cons rfl rfl (.cons rfl rfl (.cons rfl rfl (.cons rfl rfl (.cons rfl rfl (.cons rfl rfl (.cons rfl rfl (.cons rfl rfl (.cons rfl rfl .nil))))))))))
     refine l_nil (e_then ?_)
     refine c_keep [2, 8, 9, 10, 11, 13, 14, 15, 16, 78] (.cons rfl (.cons rfl (.cons rfl (.cons rfl (.cons rfl (.cons rfl (.cons rfl (.cons rfl (.cons rfl (.cons rfl .nil)))))))))) ?_
     first | refine c_cond rfl (fun hc3 => ?_) (fun hc3 => ?_) | refine c_condb rfl (fun hc3 => ?_) (fun hc3 => ?_)
     ·skip
      refine c_skip (e_then ?_)
      refine c_keep [2, 8, 9, 10, 11, 13, 14, 15, 16] (.cons rfl (.cons rfl (.cons rfl (.cons rfl (.cons rfl (.cons rfl (.cons rfl (.cons rfl (.cons rfl .nil))))))))) ?_
      refine c_block (c_seq (c_region ?_))
      have hgt : (X * 4294967296 + u1) / V < q := by
       rcases hc3 with h | h
       ·omega
       ·exact kn_dn hVe (by omega) hqa h
      refine l_move rfl rfl rfl ?_
      refine l_sub rfl rfl rfl rfl (w_u64 (by omega)) ?_
      refine l_assign rfl rfl rfl (l_nil (e_then ?_))
      refine c_keep [2, 8, 9, 10, 11, 13, 14, 15, 16] (.cons rfl (.cons rfl (.cons rfl (.cons rfl (.cons rfl (.cons rfl (.cons rfl (.cons rfl (.cons rfl .nil))))))))) ?_
      refine c_seq (c_region (l_move rfl rfl rfl (l_move rfl rfl rfl ?_)))
      refine l_add rfl rfl rfl rfl (w_u64 (by omega)) ?_
      refine l_assign rfl rfl rfl (l_nil (e_then ?_))
      refine c_keep [2, 8, 9, 10, 11, 13, 14, 15, 16] (.cons rfl (.cons rfl (.cons rfl (.cons rfl (.cons rfl (.cons rfl (.cons rfl (.cons rfl (.cons rfl .nil))))))))) ?_
      refine c_seq (c_region (l_move rfl rfl rfl ?_))
      refine l_geq rfl rfl rfl rfl ?_
      refine l_nil (e_then ?_)
      refine c_keep [2, 8, 9, 10, 11, 13, 14, 15, 16, 85] (.cons rfl (.cons rfl (.cons rfl (.cons rfl (.cons rfl (.cons rfl (.cons rfl (.cons rfl (.cons rfl (.cons rfl .nil)))))))))) ?_
      first | refine c_cond rfl (fun hc4 => ?_) (fun hc4 => ?_) | refine c_condb rfl (fun hc4 => ?_) (fun hc4 => ?_)
      ·skip
       refine c_exit ?_
       refine e_blk_other rfl ?_
       refine e_then_exit ?_
       refine e_blk_exit ?_
       refine e_meetk (q - 1) ?_ (.cons rfl (.cons rfl (.cons rfl (.cons rfl (.cons rfl (.cons rfl (.cons rfl .nil))))))) ?_
       ·have hqb1 := mul_lt (a := q - 1) (b := b) (x := 4294967297) (y := 4294967296) (by omega) (by omega)
        have hex := kn_up (X := X) (u := u1) (q := q - 1) (rh := rh + a) hVe (by omega) (by omega) (by omega)
        exact ⟨hw2, by omega⟩
       ·exact (.cons rfl (by first | rfl | (refine congrArg (Value.int _) ?_; omega)) .nil)
      ·skip
       refine c_skip ?_
       refine e_blk ?_
       refine e_againk (i := (q, rh)) (q - 1, rh + a) ?_ ?_ (.cons rfl (.cons rfl (.cons rfl (.cons rfl (.cons rfl (.cons rfl (.cons rfl .nil))))))) ?_
       ·first | omega | (simp; omega)
       ·exact ⟨hw2, by omega, by omega, by omega, by omega, by omega, by omega⟩
       ·exact (.cons rfl (by first | rfl | (refine congrArg (Value.int _) ?_; omega)) (.cons rfl (by first | rfl | (refine congrArg (Value.int _) ?_; omega)) .nil))
     ·skip
      refine c_exit ?_
      refine e_then_exit ?_
      refine e_then_exit ?_
      refine e_blk_exit ?_
      refine e_meetk (q) ?_ (.cons rfl (.cons rfl (.cons rfl (.cons rfl (.cons rfl (.cons rfl (.cons rfl .nil))))))) ?_
      ·have hex := kn_up (X := X) (u := u1) hVe (by omega) hqa (by omega)
       exact ⟨hw2, by omega⟩
      ·exact (.cons rfl (by first | rfl | (refine congrArg (Value.int _) ?_; omega)) .nil)
    rintro q1 w3 ⟨hw3, hq1⟩
    show RunC P _ _ _ (_ :: _) _
    refine c_seq (c_region ?_)
    have hR := kn_rem (X := X) (u := u1) (V := V) (by omega)
    have hq1b := kn_lt (X := X) (u := u1) (V := V) (by omega) (by omega) (by omega)
    have hq1n : 0 ≤ (X * 4294967296 + u1) / V := Int.ediv_nonneg (by omega) (by omega)
    rw [← hq1] at hR hq1b hq1n
    clear hXa hXa0 hXa1 hXq
    refine l_move rfl rfl rfl ?_
    refine l_mul rfl rfl rfl rfl (w_u64m _) ?_
    refine l_move rfl rfl rfl ?_
    refine l_add rfl rfl rfl rfl (w_u64m _) ?_
    refine l_move rfl rfl rfl (l_move rfl rfl rfl ?_)
    refine l_mul rfl rfl rfl rfl (w_u64m _) ?_
    refine l_sub rfl rfl rfl rfl (w_u64m _) ?_
    refine l_assign rfl rfl rfl (l_nil (e_then ?_))
    refine c_keep [2, 8, 9, 10, 14, 15, 17] (.cons rfl (.cons rfl (.cons rfl (.cons rfl (.cons rfl (.cons rfl (.cons rfl .nil))))))) ?_
    refine c_seq (c_region ?_)
    refine l_turn (s := 17) (v' := .int .u64 (X * 4294967296 + u1 - q1 * V)) rfl (by refine congrArg (Value.int _) ?_; omega) ?_
    obtain ⟨R, hRd⟩ : ∃ R, X * 4294967296 + u1 - q1 * V = R := ⟨_, rfl⟩
    rw [hRd] at hR ⊢
    have hRa := Int.ediv_mul_le R (show a ≠ 0 by omega)
    have hRa0 : 0 ≤ R / a * a := Int.mul_nonneg (Int.ediv_nonneg hR.1 (by omega)) (by omega)
    have hRa1 : R - R / a * a < a := by
     have := Int.emod_lt_of_pos R (show 0 < a by omega)
     have e := Int.emod_add_mul_ediv R a
     rw [Int.mul_comm] at e
     omega
    have hRq := Int.ediv_nonneg hR.1 (show 0 ≤ a by omega)
    refine l_move rfl rfl rfl (l_move rfl rfl rfl ?_)
    refine l_quo rfl rfl rfl rfl (by omega) (q_u64 (by omega)) ?_
    refine l_assign rfl rfl rfl (l_nil (e_then ?_))
    refine c_keep [2, 8, 9, 10, 14, 15, 17, 18] (.cons rfl (.cons rfl (.cons rfl (.cons rfl (.cons rfl (.cons rfl (.cons rfl (.cons rfl .nil)))))))) ?_
    refine c_seq (c_region (l_move rfl rfl rfl (l_move rfl rfl rfl (l_move rfl rfl rfl ?_))))
    refine l_mul rfl rfl rfl rfl (w_u64 (by omega)) ?_
    refine l_sub rfl rfl rfl rfl (w_u64 (by omega)) ?_
    refine l_assign rfl rfl rfl (l_nil (e_then ?_))
    refine c_keep [2, 8, 9, 10, 14, 15, 16, 17, 18] (.cons rfl (.cons rfl (.cons rfl (.cons rfl (.cons rfl (.cons rfl (.cons rfl (.cons rfl (.cons rfl .nil))))))))) ?_
    refine c_cutk (ι := Int) (fun (q0 : Int) (w' : World) => St w w.heap.size None' ([]) w' ∧ q0 = (R * 4294967296 + u0) / V) (fun (q0 : Int) => [(18, .int .u64 q0)]) [2, 8, 14, 15, 17] (.cons rfl (.cons rfl (.cons rfl (.cons rfl (.cons rfl .nil))))) ?_ ?_
    ·skip
     refine c_block ?_
     refine c_loopk (ι := Int × Int) (fun (z0 : Int × Int) => match z0 with | ⟨q, rh⟩ => q.toNat) (fun (z0 : Int × Int) (w' : World) => match z0 with | ⟨q, rh⟩ => St w w.heap.size None' ([]) w' ∧ 0 ≤ q ∧ q ≤ 4294967297 ∧ 0 ≤ rh ∧ rh < 4294967296 ∧ q * a + rh = R ∧ (R * 4294967296 + u0) / V ≤ q) (fun (z0 : Int × Int) => match z0 with | ⟨q, rh⟩ => [(16, .int .u64 rh), (18, .int .u64 q)]) [2, 8, 9, 10, 14, 15, 17] (R / a, R - R / a * a) ?_ (.cons rfl (.cons rfl (.cons rfl (.cons rfl (.cons rfl (.cons rfl (.cons rfl .nil))))))) ?_ ?_
     ·exact ⟨hw3, Int.ediv_nonneg (by omega) (by omega), kn_top hVe (by omega) (by omega) (by omega), by omega, by omega, by omega, kn_start hVe (by omega) (by omega) (by omega) (by omega)⟩
     ·exact (.cons rfl (by first | rfl | (refine congrArg (Value.int _) ?_; omega)) (.cons rfl (by first | rfl | (refine congrArg (Value.int _) ?_; omega)) .nil))
     rintro ⟨q, rh⟩ w4 ⟨hw4, hq0, hq1, hr0, hr1, hqa, hqt⟩
     show RunC P _ _ _ (_ :: _) _
     have hsub : (q - 1) * a = q * a - a := by rw [Int.sub_mul, Int.one_mul]
     have hltq := kn_lt (X := R) (u := u0) (V := V) (by omega) (by omega) (by omega)
     have hqn : 0 ≤ (R * 4294967296 + u0) / V := Int.ediv_nonneg (by omega) (by omega)
     refine c_seq (c_seq (c_region (l_move rfl rfl rfl ?_)))
     refine l_geq rfl rfl rfl rfl ?_
     refine l_move rfl rfl rfl ?_
     apply l_or 8 [2, 8, 9, 10, 14, 15, 16, 17, 18] rfl rfl (.cons rfl (.cons rfl (.cons rfl (.cons rfl (.cons rfl (.cons rfl (.cons rfl (.cons rfl (.cons rfl (.cons rfl .nil)))))))))) rfl rfl (fun _ => rfl) rfl rfl rfl
     ·intro hg24_3
      have hqb := mul_lt (a := q) (b := b) (x := 4294967296) (y := 4294967296) (by omega) (by omega)
      refine l_move rfl rfl rfl (l_move rfl rfl rfl ?_)
      refine l_mul rfl rfl rfl rfl (w_u64 (by omega)) ?_
      refine l_move rfl rfl rfl ?_
      refine l_mul rfl rfl rfl rfl (w_u64 (by omega)) ?_
      refine l_move rfl rfl rfl ?_
      refine l_add rfl rfl rfl rfl (w_u64 (by omega)) ?_
      refine l_gtr rfl rfl rfl rfl ?_
      refine l_nil ?_
      exact e_stays rfl (.cons rfl (congrArg Value.bool (decide_eq_false hg24_3).symm) (.cons rfl rfl (.cons rfl rfl (.cons rfl rfl (.cons rfl rfl (.cons rfl rfl (.cons rfl rfl (.cons rfl rfl (.cons rfl rfl (.cons rfl rfl .nil))))))))))
     refine l_nil (e_then ?_)
     refine c_keep [2, 8, 9, 10, 14, 15, 16, 17, 18, 113] (.cons rfl (.cons rfl (.cons rfl (.cons rfl (.cons rfl (.cons rfl (.cons rfl (.cons rfl (.cons rfl (.cons rfl .nil)))))))))) ?_
     first | refine c_cond rfl (fun hc5 => ?_) (fun hc5 => ?_) | refine c_condb rfl (fun hc5 => ?_) (fun hc5 => ?_)
     ·skip
      refine c_skip (e_then ?_)
      refine c_keep [2, 8, 9, 10, 14, 15, 16, 17, 18] (.cons rfl (.cons rfl (.cons rfl (.cons rfl (.cons rfl (.cons rfl (.cons rfl (.cons rfl (.cons rfl .nil))))))))) ?_
      refine c_block (c_seq (c_region ?_))
      have hgt : (R * 4294967296 + u0) / V < q := by
       rcases hc5 with h | h
       ·omega
       ·exact kn_dn hVe (by omega) hqa h
      refine l_move rfl rfl rfl ?_
      refine l_sub rfl rfl rfl rfl (w_u64 (by omega)) ?_
      refine l_assign rfl rfl rfl (l_nil (e_then ?_))
      refine c_keep [2, 8, 9, 10, 14, 15, 16, 17, 18] (.cons rfl (.cons rfl (.cons rfl (.cons rfl (.cons rfl (.cons rfl (.cons rfl (.cons rfl (.cons rfl .nil))))))))) ?_
      refine c_seq (c_region (l_move rfl rfl rfl (l_move rfl rfl rfl ?_)))
      refine l_add rfl rfl rfl rfl (w_u64 (by omega)) ?_
      refine l_assign rfl rfl rfl (l_nil (e_then ?_))
      refine c_keep [2, 8, 9, 10, 14, 15, 16, 17, 18] (.cons rfl (.cons rfl (.cons rfl (.cons rfl (.cons rfl (.cons rfl (.cons rfl (.cons rfl (.cons rfl .nil))))))))) ?_
      refine c_seq (c_region (l_move rfl rfl rfl ?_))
      refine l_geq rfl rfl rfl rfl ?_
      refine l_nil (e_then ?_)
      refine c_keep [2, 8, 9, 10, 14, 15, 16, 17, 18, 120] (.cons rfl (.cons rfl (.cons rfl (.cons rfl (.cons rfl (.cons rfl (.cons rfl (.cons rfl (.cons rfl (.cons rfl .nil)))))))))) ?_
      first | refine c_cond rfl (fun hc6 => ?_) (fun hc6 => ?_) | refine c_condb rfl (fun hc6 => ?_) (fun hc6 => ?_)
      ·skip
       refine c_exit ?_
       refine e_blk_other rfl ?_
       refine e_then_exit ?_
       refine e_blk_exit ?_
       refine e_meetk (q - 1) ?_ (.cons rfl (.cons rfl (.cons rfl (.cons rfl (.cons rfl .nil))))) ?_
       ·have hqb1 := mul_lt (a := q - 1) (b := b) (x := 4294967297) (y := 4294967296) (by omega) (by omega)
        have hex := kn_up (X := R) (u := u0) (q := q - 1) (rh := rh + a) hVe (by omega) (by omega) (by omega)
        exact ⟨hw4, by omega⟩
       ·exact (.cons rfl (by first | rfl | (refine congrArg (Value.int _) ?_; omega)) .nil)
      ·skip
       refine c_skip ?_
       refine e_blk ?_
       refine e_againk (i := (q, rh)) (q - 1, rh + a) ?_ ?_ (.cons rfl (.cons rfl (.cons rfl (.cons rfl (.cons rfl (.cons rfl (.cons rfl .nil))))))) ?_
       ·first | omega | (simp; omega)
       ·exact ⟨hw4, by omega, by omega, by omega, by omega, by omega, by omega⟩
       ·exact (.cons rfl (by first | rfl | (refine congrArg (Value.int _) ?_; omega)) (.cons rfl (by first | rfl | (refine congrArg (Value.int _) ?_; omega)) .nil))
     ·skip
      refine c_exit ?_
      refine e_then_exit ?_
      refine e_then_exit ?_
      refine e_blk_exit ?_
      refine e_meetk (q) ?_ (.cons rfl (.cons rfl (.cons rfl (.cons rfl (.cons rfl .nil))))) ?_
      ·have hex := kn_up (X := R) (u := u0) hVe (by omega) hqa (by omega)
       exact ⟨hw4, by omega⟩
      ·exact (.cons rfl (by first | rfl | (refine congrArg (Value.int _) ?_; omega)) .nil)
    rintro q0 w5 ⟨hw5, hq0⟩
    show RunC P _ _ _ (_ :: _) _
    refine c_seq (c_region ?_)
    have hR2 := kn_rem (X := R) (u := u0) (V := V) (by omega)
    have hq0b := kn_lt (X := R) (u := u0) (V := V) (by omega) (by omega) (by omega)
    have hq0n : 0 ≤ (R * 4294967296 + u0) / V := Int.ediv_nonneg (by omega) (by omega)
    rw [← hq0] at hR2 hq0b hq0n
    refine l_move rfl rfl rfl ?_
    refine l_mul rfl rfl rfl rfl (w_u64 (by omega)) ?_
    refine l_move rfl rfl rfl ?_
    refine l_add rfl rfl rfl rfl (w_u64 (by omega)) ?_
    refine l_move rfl rfl rfl ?_
    refine l_mul rfl rfl rfl rfl (w_u64m _) ?_
    refine l_move rfl rfl rfl ?_
    refine l_add rfl rfl rfl rfl (w_u64m _) ?_
    refine l_move rfl rfl rfl (l_move rfl rfl rfl ?_)
    refine l_mul rfl rfl rfl rfl (w_u64m _) ?_
    refine l_sub rfl rfl rfl rfl (w_u64m _) ?_
    refine l_move rfl rfl rfl ?_
    refine l_turn (s := 132) (v' := .int .u64 (R * 4294967296 + u0 - q0 * V)) rfl (by refine congrArg (Value.int _) ?_; omega) ?_
    refine l_shr rfl rfl rfl rfl (by omega) (shr_eq hDk (by omega)) ?_
    refine l_assign rfl rfl rfl (l_assign rfl rfl rfl (l_nil (e_then ?_)))
    refine c_keep [6, 7] (.cons rfl (.cons rfl .nil)) ?_
    refine c_ret ?_
    refine e_done2 Tryz.results99 rfl rfl ?_
    refine ⟨_, rfl, ?_⟩
    have hf := kn_fin hD0 hVd hsc hRd.symm rfl hR2.1 hR2.2
    exact ⟨by rw [hf.1, hf.2], hw5.grows⟩
end Go.Proofs.YtggdkplphfofkaaGreat.W
