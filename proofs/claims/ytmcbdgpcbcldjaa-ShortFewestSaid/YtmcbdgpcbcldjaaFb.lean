/- walks of nat.trim, nat.Len, nat.long, nat.told and of math/bits -/
import Derived.Test.YtmcbdgpcbcldjaaVx
import Derived.Test.YtmcbdgpcbcldjaaMa
set_option linter.unusedVariables false
set_option linter.unusedSimpArgs false
set_option maxRecDepth 10000
namespace Go.Proofs.Ytmcbdgpcbcldjaa.W
open Go.Vc Go.RowKit

abbrev W64 : Int := 18446744073709551616
/-- words of 64 bits -/
abbrev U (l : List Int) : Prop := Rg 0 18446744073709551615 l
theorem U.dg {l : List Int} (h : U l) : Ma.Dg 18446744073709551616 l := fun x hx => by have := h x hx; omega
theorem U.of_dg {l : List Int} (h : Ma.Dg 18446744073709551616 l) : U l := fun x hx => by have := h x hx; omega
/-- the number that words say -/
abbrev nv (l : List Int) : Int := Ma.vb 18446744073709551616 l
theorem U.nv_nonneg {l : List Int} (h : U l) : 0 ≤ nv l := Ma.vb_nonneg (by omega) h.dg
def len8 : List UInt8 := [0, 1, 2, 2, 3, 3, 3, 3, 4, 4, 4, 4, 4, 4, 4, 4, 5, 5, 5, 5, 5, 5, 5, 5, 5, 5, 5, 5, 5, 5, 5, 5] ++ List.replicate 32 6 ++ List.replicate 64 7 ++ List.replicate 128 8
theorem len8_eq : ∀ k : Fin 256, ((len8.getD k.val 0).toNat : Int) = Ma.blen (k.val : Int) := by decide +kernel
theorem len8_at {y : Int} (h : 0 ≤ y ∧ y ≤ 255) : ((len8.getD y.toNat 0).toNat : Int) = Ma.blen y := by
  obtain ⟨k, rfl⟩ := Int.eq_ofNat_of_zero_le h.1
  exact len8_eq ⟨k, by omega⟩
theorem blen_div {x d : Int} {k : Nat} (hd : d = 2 ^ k) (h : d ≤ x) : Ma.blen x = (k : Int) + Ma.blen (x / d) := by
  subst hd
  have hp := Ma.pow_pos (show (0 : Int) < 2 by omega) k
  have h1 : 0 < x / 2 ^ k := (Int.le_ediv_iff_mul_le hp).2 (by omega)
  have h2 := Int.emod_nonneg x (show (2 : Int) ^ k ≠ 0 by omega)
  have h3 := Int.emod_lt_of_pos x hp
  rw [← Ma.blen_shift h1 h2 h3]
  congr 1
  have := Int.emod_add_mul_ediv x (2 ^ k)
  omega

theorem len64 (x : Int) (hx : 0 ≤ x ∧ x ≤ 18446744073709551615) (w : World) :
    CallsV P 54 [.int .u64 x] w fun r w' => r = .int .i64 (Ma.blen x) ∧ w = w' := by
  refine enterW Try.func54 rfl Try.ntmps54 rfl ?_
  refine c_seq ?_
  refine c_region ?_
  refine l_assign rfl rfl rfl ?_
  refine l_nil ?_
  refine e_then ?_
  refine c_cutk (ι := Int × Int) (fun (z0 : Int × Int) (w' : World) => match z0 with | ⟨y, n⟩ => w = w' ∧ 0 ≤ y ∧ y < 4294967296 ∧ 0 ≤ n ∧ n ≤ 32 ∧ Ma.blen x = n + Ma.blen y) (fun (z0 : Int × Int) => match z0 with | ⟨y, n⟩ => [(0, .int .u64 y), (2, .int .i64 n)]) [] .nil ?_ ?_
  · skip
    refine c_seq ?_
    refine c_region ?_
    refine l_move rfl rfl rfl ?_
    refine l_geq rfl rfl rfl rfl ?_
    refine l_nil ?_
    refine e_then ?_
    refine c_keep [0, 2, 4] (.cons rfl (.cons rfl (.cons rfl .nil))) ?_
    first | refine c_cond rfl (fun hc0 => ?_) (fun hc0 => ?_) | refine c_condb rfl (fun hc0 => ?_) (fun hc0 => ?_)
    · skip
      refine c_seq ?_
      refine c_region ?_
      refine l_move rfl rfl rfl ?_
      refine l_shr rfl rfl rfl rfl (by omega) (shr_eq (d := 4294967296) (by decide) (by decide)) ?_
      refine l_assign rfl rfl rfl ?_
      refine l_nil ?_
      refine e_then ?_
      refine c_keep [0] (.cons rfl .nil) ?_
      refine c_region ?_
      refine l_assign rfl rfl rfl ?_
      refine l_nil ?_
      refine e_meetk ((x / 4294967296, 32)) ?_ .nil ?_
      · have := blen_div (k := 32) (by decide) hc0
        exact ⟨rfl, by omega, by omega, by omega, by omega, this⟩
      · exact (.cons rfl (by first | rfl | (refine congrArg (Value.int _) ?_; omega)) (.cons rfl (by first | rfl | (refine congrArg (Value.int _) ?_; omega)) .nil))
    · skip
      refine c_skip ?_
      refine e_meetk ((x, 0)) ?_ .nil ?_
      · exact ⟨rfl, by omega, by omega, by omega, by omega, (Int.zero_add _).symm⟩
      · exact (.cons rfl (by first | rfl | (refine congrArg (Value.int _) ?_; omega)) (.cons rfl (by first | rfl | (refine congrArg (Value.int _) ?_; omega)) .nil))
  rintro ⟨y, n⟩ _ ⟨rfl, hy0, hy1, hn0, hn1, hbl⟩
  show RunC P _ _ _ (_ :: _) _
  refine c_cutk (ι := Int × Int) (fun (z0 : Int × Int) (w' : World) => match z0 with | ⟨y, n⟩ => w = w' ∧ 0 ≤ y ∧ y < 65536 ∧ 0 ≤ n ∧ n ≤ 48 ∧ Ma.blen x = n + Ma.blen y) (fun (z0 : Int × Int) => match z0 with | ⟨y, n⟩ => [(0, .int .u64 y), (2, .int .i64 n)]) [] .nil ?_ ?_
  · skip
    refine c_seq ?_
    refine c_region ?_
    refine l_move rfl rfl rfl ?_
    refine l_geq rfl rfl rfl rfl ?_
    refine l_nil ?_
    refine e_then ?_
    refine c_keep [0, 2, 8] (.cons rfl (.cons rfl (.cons rfl .nil))) ?_
    first | refine c_cond rfl (fun hc1 => ?_) (fun hc1 => ?_) | refine c_condb rfl (fun hc1 => ?_) (fun hc1 => ?_)
    · skip
      refine c_seq ?_
      refine c_region ?_
      refine l_move rfl rfl rfl ?_
      refine l_shr rfl rfl rfl rfl (by omega) (shr_eq (d := 65536) (by decide) (by decide)) ?_
      refine l_assign rfl rfl rfl ?_
      refine l_nil ?_
      refine e_then ?_
      refine c_keep [0, 2] (.cons rfl (.cons rfl .nil)) ?_
      refine c_region ?_
      refine l_move rfl rfl rfl ?_
      refine l_add rfl rfl rfl rfl (w_i64 (by omega)) ?_
      refine l_assign rfl rfl rfl ?_
      refine l_nil ?_
      refine e_meetk ((y / 65536, n + 16)) ?_ .nil ?_
      · have := blen_div (k := 16) (by decide) hc1
        exact ⟨rfl, by omega, by omega, by omega, by omega, by omega⟩
      · exact (.cons rfl (by first | rfl | (refine congrArg (Value.int _) ?_; omega)) (.cons rfl (by first | rfl | (refine congrArg (Value.int _) ?_; omega)) .nil))
    · skip
      refine c_skip ?_
      refine e_meetk ((y, n)) ?_ .nil ?_
      · exact ⟨rfl, by omega, by omega, by omega, by omega, by omega⟩
      · exact (.cons rfl (by first | rfl | (refine congrArg (Value.int _) ?_; omega)) (.cons rfl (by first | rfl | (refine congrArg (Value.int _) ?_; omega)) .nil))
  rintro ⟨y, n⟩ _ ⟨rfl, hy0, hy1, hn0, hn1, hbl⟩
  show RunC P _ _ _ (_ :: _) _
  refine c_cutk (ι := Int × Int) (fun (z0 : Int × Int) (w' : World) => match z0 with | ⟨y, n⟩ => w = w' ∧ 0 ≤ y ∧ y < 256 ∧ 0 ≤ n ∧ n ≤ 56 ∧ Ma.blen x = n + Ma.blen y) (fun (z0 : Int × Int) => match z0 with | ⟨y, n⟩ => [(0, .int .u64 y), (2, .int .i64 n)]) [] .nil ?_ ?_
  · skip
    refine c_seq ?_
    refine c_region ?_
    refine l_move rfl rfl rfl ?_
    refine l_geq rfl rfl rfl rfl ?_
    refine l_nil ?_
    refine e_then ?_
    refine c_keep [0, 2, 14] (.cons rfl (.cons rfl (.cons rfl .nil))) ?_
    first | refine c_cond rfl (fun hc2 => ?_) (fun hc2 => ?_) | refine c_condb rfl (fun hc2 => ?_) (fun hc2 => ?_)
    · skip
      refine c_seq ?_
      refine c_region ?_
      refine l_move rfl rfl rfl ?_
      refine l_shr rfl rfl rfl rfl (by omega) (shr_eq (d := 256) (by decide) (by decide)) ?_
      refine l_assign rfl rfl rfl ?_
      refine l_nil ?_
      refine e_then ?_
      refine c_keep [0, 2] (.cons rfl (.cons rfl .nil)) ?_
      refine c_region ?_
      refine l_move rfl rfl rfl ?_
      refine l_add rfl rfl rfl rfl (w_i64 (by omega)) ?_
      refine l_assign rfl rfl rfl ?_
      refine l_nil ?_
      refine e_meetk ((y / 256, n + 8)) ?_ .nil ?_
      · have := blen_div (k := 8) (by decide) hc2
        exact ⟨rfl, by omega, by omega, by omega, by omega, by omega⟩
      · exact (.cons rfl (by first | rfl | (refine congrArg (Value.int _) ?_; omega)) (.cons rfl (by first | rfl | (refine congrArg (Value.int _) ?_; omega)) .nil))
    · skip
      refine c_skip ?_
      refine e_meetk ((y, n)) ?_ .nil ?_
      · exact ⟨rfl, by omega, by omega, by omega, by omega, by omega⟩
      · exact (.cons rfl (by first | rfl | (refine congrArg (Value.int _) ?_; omega)) (.cons rfl (by first | rfl | (refine congrArg (Value.int _) ?_; omega)) .nil))
  rintro ⟨y, n⟩ _ ⟨rfl, hy0, hy1, hn0, hn1, hbl⟩
  show RunC P _ _ _ (_ :: _) _
  refine c_seq ?_
  refine c_region ?_
  refine l_move rfl rfl rfl ?_
  refine l_move rfl rfl rfl ?_
  refine l_conv rfl rfl Try.underlying22 Try.underlying5 rfl (w_u8 (by omega)) ?_
  refine v_gets (j := y.toNat) rfl rfl Try.underlying9 rfl rfl (by omega) (Nat.lt_of_lt_of_eq (show y.toNat < 256 by omega) (by kernel_rfl)) (fun hb10_3 => ?_)
  have h8 := len8_at (y := y) (by omega)
  have hyy : 0 ≤ Ma.blen y := Ma.blen_nonneg y
  have hy9 : Ma.blen y ≤ 8 := (Ma.blen_le_iff (by omega) 8).2 (by omega)
  change RunL P _ _ _ _ ((22, .int .u8 ((len8.getD y.toNat 0).toNat : Int)) :: _) _
  rw [h8]
  refine l_conv rfl rfl Try.underlying5 Try.underlying3 rfl (w_i64 (by omega)) ?_
  refine l_add rfl rfl rfl rfl (w_i64 (by omega)) ?_
  refine l_assign rfl rfl rfl ?_
  refine l_nil ?_
  refine e_then ?_
  refine c_keep [2] (.cons rfl .nil) ?_
  refine c_ret ?_
  refine e_done1 Try.results54 rfl ?_
  refine ⟨_, rfl, ?_⟩
  exact ⟨by rw [hbl], rfl⟩

theorem mul_lt {a b : Int} {x y : Int} (ha : 0 ≤ a ∧ a < x) (hb : 0 ≤ b ∧ b < y) : 0 ≤ a * b ∧ a * b ≤ (x - 1) * (y - 1) :=
  ⟨Int.mul_nonneg ha.1 hb.1, Int.mul_le_mul (by omega) (by omega) hb.1 (by omega)⟩
/-- the high word of a product, by halves -/
theorem mul64_hi {x y x0 x1 y0 y1 : Int} (ex : x = x0 + 4294967296 * x1) (ey : y = y0 + 4294967296 * y1) (hx0 : 0 ≤ x0 ∧ x0 < 4294967296) (hx1 : 0 ≤ x1 ∧ x1 < 4294967296) (hy0 : 0 ≤ y0 ∧ y0 < 4294967296) (hy1 : 0 ≤ y1 ∧ y1 < 4294967296) :
    x1 * y1 + (x1 * y0 + x0 * y0 / 4294967296) / 4294967296 + ((x1 * y0 + x0 * y0 / 4294967296) % 4294967296 + x0 * y1) / 4294967296 = x * y / 18446744073709551616 := by
  have e : x * y = x0 * y0 + 4294967296 * (x1 * y0) + 4294967296 * (x0 * y1) + 18446744073709551616 * (x1 * y1) := by
    subst ex ey
    rw [Int.add_mul, Int.mul_add, Int.mul_add, Int.mul_assoc, Int.mul_assoc, Int.mul_left_comm x0, Int.mul_left_comm x1]
    omega
  have p00 := mul_lt hx0 hy0
  have p10 := mul_lt hx1 hy0
  have p01 := mul_lt hx0 hy1
  have p11 := mul_lt hx1 hy1
  rw [e]
  generalize x0 * y0 = a at *
  generalize x1 * y0 = b at *
  generalize x0 * y1 = c at *
  generalize x1 * y1 = d at *
  omega

theorem mul64 (x y : Int) (hx : 0 ≤ x ∧ x ≤ 18446744073709551615) (hy : 0 ≤ y ∧ y ≤ 18446744073709551615) (w : World) :
    CallsV P 75 [.int .u64 x, .int .u64 y] w fun r w' => r = .tuple #[.int .u64 (x * y / 18446744073709551616), .int .u64 (x * y % 18446744073709551616)] ∧ w = w' := by
  refine enterW Try.func75 rfl Try.ntmps75 rfl ?_
  have p00 := mul_lt (a := x % 4294967296) (b := y % 4294967296) (x := 4294967296) (y := 4294967296) (by omega) (by omega)
  have p10 := mul_lt (a := x / 4294967296) (b := y % 4294967296) (x := 4294967296) (y := 4294967296) (by omega) (by omega)
  have p01 := mul_lt (a := x % 4294967296) (b := y / 4294967296) (x := 4294967296) (y := 4294967296) (by omega) (by omega)
  have p11 := mul_lt (a := x / 4294967296) (b := y / 4294967296) (x := 4294967296) (y := 4294967296) (by omega) (by omega)
  have hhi := mul64_hi (x := x) (y := y) (x0 := x % 4294967296) (x1 := x / 4294967296) (y0 := y % 4294967296) (y1 := y / 4294967296) (by omega) (by omega) (by omega) (by omega) (by omega) (by omega)
  have hlo := Int.mul_nonneg hx.1 hy.1
  have hul := mul_lt (a := x) (b := y) (x := 18446744073709551616) (y := 18446744073709551616) (by omega) (by omega)
  refine c_seq ?_
  refine c_region ?_
  refine l_assign rfl rfl rfl ?_
  refine l_assign rfl rfl rfl ?_
  refine l_nil ?_
  refine e_then ?_
  refine c_keep [0, 1] (.cons rfl (.cons rfl .nil)) ?_
  refine c_seq ?_
  refine c_region ?_
  refine l_move rfl rfl rfl ?_
  refine l_bits rfl rfl rfl rfl rfl (and_mask 32 (d := 4294967296) (by omega) (by omega) (by decide) (by decide)) ?_
  refine l_assign rfl rfl rfl ?_
  refine l_nil ?_
  refine e_then ?_
  refine c_keep [0, 1, 6] (.cons rfl (.cons rfl (.cons rfl .nil))) ?_
  refine c_seq ?_
  refine c_region ?_
  refine l_move rfl rfl rfl ?_
  refine l_shr rfl rfl rfl rfl (by omega) (shr_eq (d := 4294967296) (by decide) (by decide)) ?_
  refine l_assign rfl rfl rfl ?_
  refine l_nil ?_
  refine e_then ?_
  refine c_keep [0, 1, 6, 7] (.cons rfl (.cons rfl (.cons rfl (.cons rfl .nil)))) ?_
  refine c_seq ?_
  refine c_region ?_
  refine l_move rfl rfl rfl ?_
  refine l_bits rfl rfl rfl rfl rfl (and_mask 32 (d := 4294967296) (by omega) (by omega) (by decide) (by decide)) ?_
  refine l_assign rfl rfl rfl ?_
  refine l_nil ?_
  refine e_then ?_
  refine c_keep [0, 1, 6, 7, 8] (.cons rfl (.cons rfl (.cons rfl (.cons rfl (.cons rfl .nil))))) ?_
  refine c_seq ?_
  refine c_region ?_
  refine l_move rfl rfl rfl ?_
  refine l_shr rfl rfl rfl rfl (by omega) (shr_eq (d := 4294967296) (by decide) (by decide)) ?_
  refine l_assign rfl rfl rfl ?_
  refine l_nil ?_
  refine e_then ?_
  refine c_keep [0, 1, 6, 7, 8, 9] (.cons rfl (.cons rfl (.cons rfl (.cons rfl (.cons rfl (.cons rfl .nil)))))) ?_
  refine c_seq ?_
  refine c_region ?_
  refine l_move rfl rfl rfl ?_
  refine l_move rfl rfl rfl ?_
  refine l_mul rfl rfl rfl rfl (w_u64 (by omega)) ?_
  refine l_assign rfl rfl rfl ?_
  refine l_nil ?_
  refine e_then ?_
  refine c_keep [0, 1, 6, 7, 8, 9, 10] (.cons rfl (.cons rfl (.cons rfl (.cons rfl (.cons rfl (.cons rfl (.cons rfl .nil))))))) ?_
  refine c_seq ?_
  refine c_region ?_
  refine l_move rfl rfl rfl ?_
  refine l_move rfl rfl rfl ?_
  refine l_mul rfl rfl rfl rfl (w_u64 (by omega)) ?_
  refine l_move rfl rfl rfl ?_
  refine l_shr rfl rfl rfl rfl (by omega) (shr_eq (d := 4294967296) (by decide) (by decide)) ?_
  refine l_add rfl rfl rfl rfl (w_u64 (by omega)) ?_
  refine l_assign rfl rfl rfl ?_
  refine l_nil ?_
  refine e_then ?_
  refine c_keep [0, 1, 6, 7, 9, 11] (.cons rfl (.cons rfl (.cons rfl (.cons rfl (.cons rfl (.cons rfl .nil)))))) ?_
  refine c_seq ?_
  refine c_region ?_
  refine l_move rfl rfl rfl ?_
  refine l_bits rfl rfl rfl rfl rfl (and_mask 32 (d := 4294967296) (by omega) (by omega) (by decide) (by decide)) ?_
  refine l_assign rfl rfl rfl ?_
  refine l_nil ?_
  refine e_then ?_
  refine c_keep [0, 1, 6, 7, 9, 11, 12] (.cons rfl (.cons rfl (.cons rfl (.cons rfl (.cons rfl (.cons rfl (.cons rfl .nil))))))) ?_
  refine c_seq ?_
  refine c_region ?_
  refine l_move rfl rfl rfl ?_
  refine l_shr rfl rfl rfl rfl (by omega) (shr_eq (d := 4294967296) (by decide) (by decide)) ?_
  refine l_assign rfl rfl rfl ?_
  refine l_nil ?_
  refine e_then ?_
  refine c_keep [0, 1, 6, 7, 9, 12, 13] (.cons rfl (.cons rfl (.cons rfl (.cons rfl (.cons rfl (.cons rfl (.cons rfl .nil))))))) ?_
  refine c_seq ?_
  refine c_region ?_
  refine l_move rfl rfl rfl ?_
  refine l_move rfl rfl rfl ?_
  refine l_move rfl rfl rfl ?_
  refine l_mul rfl rfl rfl rfl (w_u64 (by omega)) ?_
  refine l_add rfl rfl rfl rfl (w_u64 (by omega)) ?_
  refine l_assign rfl rfl rfl ?_
  refine l_nil ?_
  refine e_then ?_
  refine c_keep [0, 1, 7, 9, 12, 13] (.cons rfl (.cons rfl (.cons rfl (.cons rfl (.cons rfl (.cons rfl .nil)))))) ?_
  refine c_seq ?_
  refine c_region ?_
  refine l_move rfl rfl rfl ?_
  refine l_move rfl rfl rfl ?_
  refine l_mul rfl rfl rfl rfl (w_u64 (by omega)) ?_
  refine l_move rfl rfl rfl ?_
  refine l_add rfl rfl rfl rfl (w_u64 (by omega)) ?_
  refine l_move rfl rfl rfl ?_
  refine l_shr rfl rfl rfl rfl (by omega) (shr_eq (d := 4294967296) (by decide) (by decide)) ?_
  refine l_add rfl rfl rfl rfl (w_u64 (by omega)) ?_
  refine l_assign rfl rfl rfl ?_
  refine l_nil ?_
  refine e_then ?_
  refine c_keep [0, 1, 4] (.cons rfl (.cons rfl (.cons rfl .nil))) ?_
  refine c_seq ?_
  refine c_region ?_
  refine l_move rfl rfl rfl ?_
  refine l_move rfl rfl rfl ?_
  refine l_mul rfl rfl rfl rfl (w_u64m _) ?_
  refine l_assign rfl rfl rfl ?_
  refine l_nil ?_
  refine e_then ?_
  refine c_keep [4, 5] (.cons rfl (.cons rfl .nil)) ?_
  refine c_ret ?_
  refine e_done2 Try.results75 rfl rfl ?_
  refine ⟨_, rfl, ?_⟩
  refine ⟨?_, rfl⟩
  rw [← hhi]
theorem trim (A : Option Addr) (c : Nat) (l : List Int) (hU : U l) (hL : l.length ≤ 17592186044416) (w : World) (hv : IV w (.slice A (ints .u64 l).length c) (ints .u64 l)) :
    CallsV P 71 [.slice A (ints .u64 l).length c] w fun r w' => r = .slice A (Ma.tr l).length (Ma.tr l).length ∧ w = w' := by
  refine enterW Try.func71 rfl Try.ntmps71 rfl ?_
  refine c_seq ?_
  refine c_region ?_
  refine l_assign rfl rfl rfl ?_
  refine l_nil ?_
  refine e_then ?_
  refine c_keep [0] (.cons rfl .nil) ?_
  refine c_seq ?_
  refine c_region ?_
  refine l_move rfl rfl rfl ?_
  refine v_leni rfl rfl Try.underlying66 rfl (by first | exact hv | assumption) ?_
  refine l_assign rfl rfl rfl ?_
  refine l_nil ?_
  refine e_then ?_
  refine c_keep [0, 3] (.cons rfl (.cons rfl .nil)) ?_
  refine c_seq ?_
  refine c_block ?_
  refine c_loopk (ι := Nat) (fun (k : Nat) => k) (fun (k : Nat) (w' : World) => w = w' ∧ k ≤ l.length ∧ ∀ j, k ≤ j → l.getD j 0 = 0) (fun (k : Nat) => [(3, .int .i64 (k : Int))]) [0] (l.length) ?_ (.cons rfl .nil) ?_ ?_
  · exact ⟨rfl, Nat.le_refl _, fun j hj => by simp [List.getD, hj]⟩
  · exact (.cons rfl (by first | rfl | (refine congrArg (Value.int _) ?_; omega)) .nil)
  rintro k _ ⟨rfl, hk, hz⟩
  show RunC P _ _ _ (_ :: _) _
  refine c_seq ?_
  refine c_seq ?_
  refine c_region ?_
  refine l_move rfl rfl rfl ?_
  refine l_gtr rfl rfl rfl rfl ?_
  refine l_move rfl rfl rfl ?_
  apply l_and 6 [0, 3] rfl rfl (.cons rfl (.cons rfl (.cons rfl .nil))) rfl rfl (fun _ => rfl) rfl rfl rfl
  · intro hg2_3
    refine l_move rfl rfl rfl ?_
    refine l_move rfl rfl rfl ?_
    refine l_sub rfl rfl rfl rfl (w_i64 (by omega)) ?_
    refine v_getr (j := k - 1) rfl rfl rfl rfl Try.underlying66 tz22 Try.underlying22 rfl rfl (by first | exact hv | assumption) (by assumption) rfl (by omega) (by first | omega | (simp; done) | (simp; omega)) (fun hb2_6 => ?_)
    refine l_eql rfl rfl rfl rfl ?_
    refine l_nil ?_
    exact e_stays rfl (.cons rfl (congrArg Value.bool (decide_eq_true hg2_3).symm) (.cons rfl rfl (.cons rfl rfl .nil)))
  refine l_nil ?_
  refine e_then ?_
  refine c_keep [0, 3, 15] (.cons rfl (.cons rfl (.cons rfl .nil))) ?_
  first | refine c_cond rfl (fun hc0 => ?_) (fun hc0 => ?_) | refine c_condb rfl (fun hc0 => ?_) (fun hc0 => ?_)
  · skip
    refine c_skip ?_
    refine e_then ?_
    refine c_keep [0, 3] (.cons rfl (.cons rfl .nil)) ?_
    refine c_block ?_
    refine c_region ?_
    refine l_move rfl rfl rfl ?_
    refine l_sub rfl rfl rfl rfl (w_i64 (by omega)) ?_
    refine l_assign rfl rfl rfl ?_
    refine l_nil ?_
    refine e_blk ?_
    refine e_againk (i := (k)) (k - 1) ?_ ?_ (.cons rfl .nil) ?_
    · first | omega | (simp; omega)
    · refine ⟨rfl, by omega, fun j hj => ?_⟩
      rcases Nat.lt_or_ge j k with h | h
      · obtain rfl : j = k - 1 := by omega
        exact hc0.2
      · exact hz j h
    · exact (.cons rfl (by first | rfl | (refine congrArg (Value.int _) ?_; omega)) .nil)
  · skip
    refine c_exit ?_
    refine e_then_exit ?_
    refine e_then_exit ?_
    refine e_blk_exit ?_
    refine e_then ?_
    refine c_keep [0, 3] (.cons rfl (.cons rfl .nil)) ?_
    refine c_seq ?_
    refine c_region ?_
    refine l_move rfl rfl rfl ?_
    refine l_move rfl rfl rfl ?_
    refine l_move rfl rfl rfl ?_
    refine v_trunc (h := k) rfl rfl Try.underlying66 tz22 rfl rfl rfl (by first | exact hv | assumption) (by first | rfl | omega) (by first | rfl | omega) (by first | omega | (simp; done) | (simp; omega)) (fun A4_3 c4_3 h4_3 => ?_)
    injection h4_3 with e1 e2 e3
    subst e1
    refine l_assign rfl rfl rfl ?_
    refine l_nil ?_
    refine e_then ?_
    refine c_keep [2] (.cons rfl .nil) ?_
    refine c_ret ?_
    refine e_done1 Try.results71 rfl ?_
    refine ⟨_, rfl, ?_⟩
    refine ⟨?_, rfl⟩
    rw [Ma.tr_len_unique hk hz (fun h e => hc0 ⟨by omega, e⟩)]

/-- behind a trim: what it reads as -/
theorem trim_iv {w : World} {A : Option Addr} {c : Nat} {l : List Int} (hv : IV w (.slice A (ints .u64 l).length c) (ints .u64 l)) : IV w (.slice A (Ma.tr l).length (Ma.tr l).length) (ints .u64 (Ma.tr l)) := by
  have h := Ma.tr_take l
  have := hv.trunc (h := (Ma.tr l).length) (by simpa using h.2.1)
  rwa [← List.map_take, ← h.1] at this
theorem trim_st {w0 w : World} {B : Nat} {M : Nat → Prop} {σ σ' : List As} {E : TypeId} {A : Option Addr} {c : Nat} {l : List Int} (u : Upd σ (As.ri E .u64 (.slice A (ints .u64 l).length c) l) (As.ri E .u64 (.slice A (Ma.tr l).length (Ma.tr l).length) (Ma.tr l)) σ') (hw : St w0 B M σ w) : St w0 B M σ' w := by
  have h := Ma.tr_take l
  have e : ints .u64 (Ma.tr l) = (ints .u64 l).take (Ma.tr l).length := by rw [← List.map_take, ← h.1]
  have hl : (Ma.tr l).length ≤ (ints .u64 l).length := by simpa using h.2.1
  unfold As.ri at u
  rw [e] at u
  exact hw.trunc u hl
theorem Tr.top {l : List Int} (h : U l) (ht : Ma.Tr l) (hn : 0 < l.length) : 0 < l.getD (l.length - 1) 0 := by
  have h1 := h.get (j := l.length - 1) (by omega)
  have : l.getD (l.length - 1) 0 ≠ 0 := by
    intro e
    have := Ma.tr_len_unique (l := l) (n := l.length) (Nat.le_refl _) (fun j hj => by simp [List.getD, hj])
    induction l with
    | nil => simp at hn
    | cons x m ih =>
      cases m with
      | nil => exact ht.1 rfl (by simpa using e)
      | cons y m =>
        have h' : U (y :: m) := fun z hz => h z (.tail _ hz)
        exact ih h' ht.2 (by simp) (h'.get (by simp)) (by simpa using e) (fun _ => by rw [Ma.Tr.tr_eq ht.2])
  omega
/-- a row without noughts on top: how many bits its number has -/
theorem blen_words {l : List Int} (h : U l) (ht : Ma.Tr l) (hn : 0 < l.length) : Ma.blen (nv l) = 64 * ((l.length : Int) - 1) + Ma.blen (l.getD (l.length - 1) 0) := by
  have hp := Tr.top h ht hn
  have hlt : l.length - 1 < l.length := by omega
  have e : l = l.take (l.length - 1) ++ [l.getD (l.length - 1) 0] := by
    have : l.getD (l.length - 1) 0 = l[l.length - 1] := by simp [List.getD, hlt]
    have hd : l.drop (l.length - 1) = [l[l.length - 1]] := by
      rw [List.drop_eq_getElem_cons hlt, List.drop_eq_nil_of_le (by omega)]
    rw [this, ← hd, List.take_append_drop]
  have hv := Ma.vb_append 18446744073709551616 (l.take (l.length - 1)) [l.getD (l.length - 1) 0]
  rw [← e] at hv
  have tl : (l.take (l.length - 1)).length = l.length - 1 := by rw [List.length_take]; omega
  rw [tl] at hv
  simp only [Ma.vb, Int.mul_zero, Int.add_zero] at hv
  have b1 := Ma.vb_lt (show (0 : Int) < 18446744073709551616 by omega) (h.dg.take (l.length - 1))
  have b2 := Ma.vb_nonneg (show (0 : Int) < 18446744073709551616 by omega) (h.dg.take (l.length - 1))
  rw [tl] at b1
  have ep : (18446744073709551616 : Int) ^ (l.length - 1) = 2 ^ (64 * (l.length - 1)) := by
    rw [Int.pow_mul]; rfl
  rw [ep] at hv b1
  show Ma.blen (Ma.vb 18446744073709551616 l) = _
  rw [hv, Ma.blen_shift hp b2 b1]
  omega

end Go.Proofs.Ytmcbdgpcbcldjaa.W
