/- plain facts: bits of words, floats as bits, rounding -/
import Derived.Test.YtmcbdgpcbcldjaaFk
import Derived.Test.YtmcbdgpcbcldjaaVh
import Derived.Test.YtmcbdgpcbcldjaaMa
set_option linter.unusedVariables false
set_option linter.unusedSimpArgs false
set_option maxRecDepth 10000
namespace Go.Proofs.Ytmcbdgpcbcldjaa.W
open Go.Vc Go.RowKit
/-! ### bits of a word at one place -/
theorem bw_nat {a b : Int} (ha : 0 ≤ a ∧ a ≤ 18446744073709551615) (hb : 0 ≤ b ∧ b ≤ 18446744073709551615) :
    bitw .and .u64 a b = ((a.toNat &&& b.toNat : Nat) : Int) ∧ bitw .or .u64 a b = ((a.toNat ||| b.toNat : Nat) : Int) ∧ bitw .xor .u64 a b = ((a.toNat ^^^ b.toNat : Nat) : Int) := by
  have ea : (BitVec.ofInt 64 a).toNat = a.toNat := by simp [BitVec.toNat_ofInt]; omega
  have eb : (BitVec.ofInt 64 b).toNat = b.toNat := by simp [BitVec.toNat_ofInt]; omega
  have la : a.toNat < 2 ^ 64 := by omega
  have lb : b.toNat < 2 ^ 64 := by omega
  refine ⟨?_, ?_, ?_⟩
  · show IntKind.u64.wrap ((BitVec.ofInt 64 a &&& BitVec.ofInt 64 b).toNat : Int) = _
    rw [BitVec.toNat_and, ea, eb]
    have := Nat.and_lt_two_pow a.toNat lb
    exact w_u64 (by omega)
  · show IntKind.u64.wrap ((BitVec.ofInt 64 a ||| BitVec.ofInt 64 b).toNat : Int) = _
    rw [BitVec.toNat_or, ea, eb]
    have := Nat.or_lt_two_pow la lb
    exact w_u64 (by omega)
  · show IntKind.u64.wrap ((BitVec.ofInt 64 a ^^^ BitVec.ofInt 64 b).toNat : Int) = _
    rw [BitVec.toNat_xor, ea, eb]
    have := Nat.xor_lt_two_pow la lb
    exact w_u64 (by omega)
theorem tb_eq {n q r : Nat} (hr : r < 2 ^ n) (j : Nat) : (2 ^ n * q + r).testBit j = if j < n then r.testBit j else q.testBit (j - n) := Nat.testBit_two_pow_mul_add q hr j
theorem nat_and {n q r q' r' : Nat} (hr : r < 2 ^ n) (hr' : r' < 2 ^ n) : (2 ^ n * q + r) &&& (2 ^ n * q' + r') = 2 ^ n * (q &&& q') + (r &&& r') := by
  refine Nat.eq_of_testBit_eq fun j => ?_
  rw [Nat.testBit_and, tb_eq hr, tb_eq hr', tb_eq (Nat.and_lt_two_pow _ hr')]
  split <;> rw [Nat.testBit_and]
theorem nat_or {n q r q' r' : Nat} (hr : r < 2 ^ n) (hr' : r' < 2 ^ n) : (2 ^ n * q + r) ||| (2 ^ n * q' + r') = 2 ^ n * (q ||| q') + (r ||| r') := by
  refine Nat.eq_of_testBit_eq fun j => ?_
  rw [Nat.testBit_or, tb_eq hr, tb_eq hr', tb_eq (Nat.or_lt_two_pow hr hr')]
  split <;> rw [Nat.testBit_or]
theorem nat_xor {n q r q' r' : Nat} (hr : r < 2 ^ n) (hr' : r' < 2 ^ n) : (2 ^ n * q + r) ^^^ (2 ^ n * q' + r') = 2 ^ n * (q ^^^ q') + (r ^^^ r') := by
  refine Nat.eq_of_testBit_eq fun j => ?_
  rw [Nat.testBit_xor, tb_eq hr, tb_eq hr', tb_eq (Nat.xor_lt_two_pow hr hr')]
  split <;> rw [Nat.testBit_xor]
theorem pow_cast (n : Nat) : ((2 ^ n : Nat) : Int) = (2 : Int) ^ n := by rw [Int.natCast_pow]; rfl
theorem two_parts {m : Int} {n : Nat} (hn : n < 64) (h : 0 ≤ m ∧ m < 2 ^ (n + 1)) : ∃ q r : Nat, q < 2 ∧ r < 2 ^ n ∧ m = ((2 ^ n * q + r : Nat) : Int) ∧ m % 2 ^ n = (r : Int) ∧ (2 ^ n ≤ m ↔ q = 1) ∧ 2 ^ n * q + r < 2 ^ 64 ∧ 2 ^ n < 2 ^ 64 := by
  have hp : 0 < 2 ^ n := Nat.two_pow_pos n
  have e := Nat.div_add_mod m.toNat (2 ^ n)
  have hr := Nat.mod_lt m.toNat hp
  have hm : m.toNat < 2 ^ n * 2 := by
    have : (m.toNat : Int) < ((2 ^ (n + 1) : Nat) : Int) := by rw [pow_cast]; omega
    rw [Nat.pow_succ] at this; omega
  have hq : m.toNat / 2 ^ n < 2 := Nat.div_lt_of_lt_mul hm
  have hc := pow_cast n
  have h64 : 2 ^ (n + 1) ≤ 2 ^ 64 := Nat.pow_le_pow_right (by omega) (by omega)
  rw [Nat.pow_succ] at h64
  refine ⟨m.toNat / 2 ^ n, m.toNat % 2 ^ n, hq, hr, by omega, ?_, ?_, ?_, ?_⟩
  · rw [Int.natCast_emod, hc]; congr 1; omega
  · rw [← hc]
    constructor
    · intro h1
      have : 1 ≤ m.toNat / 2 ^ n := (Nat.le_div_iff_mul_le hp).2 (by omega)
      omega
    · intro h1; rw [h1] at e; omega
  · rw [e]; omega
  · omega
theorem top_and {m : Int} {n : Nat} (hn : n < 64) (h : 0 ≤ m ∧ m < 2 ^ (n + 1)) : bitw .and .u64 m (2 ^ n) = if 2 ^ n ≤ m then 2 ^ n else 0 := by
  obtain ⟨q, r, hq, hr, rfl, _, hi, hb, hb2⟩ := two_parts hn h
  rw [← pow_cast, (bw_nat (by omega) (by omega)).1, Int.toNat_natCast, Int.toNat_natCast]
  have : 2 ^ n * q + r &&& 2 ^ n = 2 ^ n * (q &&& 1) + (r &&& 0) := by rw [← nat_and hr (Nat.two_pow_pos n)]; simp
  rw [this, ← pow_cast] at *
  rcases (show q = 0 ∨ q = 1 by omega) with rfl | rfl
  · rw [if_neg (by omega)]; simp
  · rw [if_pos (by omega)]; simp
theorem top_or {m : Int} {n : Nat} (hn : n < 64) (h : 0 ≤ m ∧ m < 2 ^ n) : bitw .or .u64 m (2 ^ n) = m + 2 ^ n := by
  obtain ⟨q, r, hq, hr, rfl, _, hi, hb, hb2⟩ := two_parts hn ⟨h.1, by rw [Int.pow_succ]; omega⟩
  have hq0 : q = 0 := by
    rcases (show q = 0 ∨ q = 1 by omega) with h | h
    · exact h
    · have := hi.2 h; omega
  subst hq0
  rw [← pow_cast, (bw_nat (by omega) (by omega)).2.1, Int.toNat_natCast, Int.toNat_natCast]
  have : 2 ^ n * 0 + r ||| 2 ^ n = 2 ^ n * (0 ||| 1) + (r ||| 0) := by rw [← nat_or hr (Nat.two_pow_pos n)]; simp
  rw [this]
  simp
  omega
theorem top_xor {m : Int} {n : Nat} (hn : n < 64) (h : 0 ≤ m ∧ m < 2 ^ (n + 1)) : bitw .xor .u64 m (2 ^ n) = if 2 ^ n ≤ m then m - 2 ^ n else m + 2 ^ n := by
  obtain ⟨q, r, hq, hr, rfl, _, hi, hb, hb2⟩ := two_parts hn h
  rw [← pow_cast, (bw_nat (by omega) (by omega)).2.2, Int.toNat_natCast, Int.toNat_natCast]
  have : 2 ^ n * q + r ^^^ 2 ^ n = 2 ^ n * (q ^^^ 1) + (r ^^^ 0) := by rw [← nat_xor hr (Nat.two_pow_pos n)]; simp
  rw [this, ← pow_cast] at *
  rcases (show q = 0 ∨ q = 1 by omega) with rfl | rfl
  · rw [if_neg (by omega)]; simp; omega
  · rw [if_pos (by omega)]; simp; omega
theorem top_clear {m : Int} {n : Nat} (hn : n < 64) (h : 0 ≤ m ∧ m < 2 ^ (n + 1)) : bitw .andNot .u64 m (2 ^ n) = m % 2 ^ n := by
  obtain ⟨q, r, hq, hr, e, he, hi, hb, hb2⟩ := two_parts hn h
  rw [he]
  subst e
  show IntKind.u64.wrap ((BitVec.ofInt 64 _ &&& ~~~(BitVec.ofInt 64 _)).toNat : Int) = _
  have key : (BitVec.ofInt 64 ((2 ^ n * q + r : Nat) : Int) &&& ~~~(BitVec.ofInt 64 (2 ^ n))) = BitVec.ofNat 64 r := by
    refine BitVec.eq_of_getLsbD_eq fun j hj => ?_
    rw [← pow_cast, BitVec.ofInt_natCast, BitVec.ofInt_natCast, BitVec.getLsbD_and, BitVec.getLsbD_not, BitVec.getLsbD_ofNat, BitVec.getLsbD_ofNat, BitVec.getLsbD_ofNat, tb_eq hr, Nat.testBit_two_pow]
    simp only [hj, decide_true, Bool.true_and]
    by_cases h1 : j < n
    · simp [h1, show ¬ n = j by omega]
    · rw [if_neg h1]
      have hz : r.testBit j = false := Nat.testBit_lt_two_pow (Nat.lt_of_lt_of_le hr (Nat.pow_le_pow_right (by omega) (by omega)))
      rw [hz]
      by_cases h2 : n = j
      · simp [h2]
      · have : q.testBit (j - n) = false := Nat.testBit_lt_two_pow (Nat.lt_of_lt_of_le hq (by
          have : 2 ^ 1 ≤ 2 ^ (j - n) := Nat.pow_le_pow_right (by omega) (by omega)
          omega))
        simp [this]
  rw [key, BitVec.toNat_ofNat, Nat.mod_eq_of_lt (Nat.lt_trans hr hb2)]
  exact w_u64 (by omega)
/-- a mask of ones -/
theorem and_ones {m : Int} {n : Nat} (hn : n ≤ 64) (h : 0 ≤ m ∧ m ≤ 18446744073709551615) : bitw .and .u64 m (2 ^ n - 1) = m % 2 ^ n := and_mask n h hn rfl rfl

/-! ### floats as bits, and rounding -/
inductive Kd | f32 | f64
def Kd.M : Kd → Nat | .f32 => 24 | .f64 => 53
def Kd.l : Kd → Nat | .f32 => 149 | .f64 => 1074
def Kd.A : Kd → Nat | .f32 => 32 | .f64 => 64
def Kd.S : Kd → Int | .f32 => 2147483648 | .f64 => 9223372036854775808
def Kd.H : Kd → Int | .f32 => 8388608 | .f64 => 4503599627370496
def Kd.I : Kd → Int | .f32 => 2139095040 | .f64 => 9218868437227405312
theorem Kd.hM (d : Kd) : (2 : Int) ^ d.M = 2 * d.H := by cases d <;> rfl
theorem Kd.hH0 (d : Kd) : 0 < d.H := by cases d <;> decide
/-- a float's size in units of the least one -/
def fv (H b : Int) : Int := if b < H then b else (b % H + H) * 2 ^ (b / H - 1).toNat
theorem fv_of {H x : Int} (hH : 0 < H) (u : Nat) (h0 : 0 ≤ x) (h2 : x ≤ 2 * H) (hu : u = 0 ∨ H ≤ x) : fv H (x + u * H) = x * 2 ^ u := by
  unfold fv
  by_cases h : x < H
  · obtain rfl : u = 0 := by omega
    rw [if_pos (by simpa using h)]
    simp
  · have hu0 : 0 ≤ (u : Int) * H := Int.mul_nonneg (by omega) (by omega)
    rw [if_neg (by omega)]
    by_cases h3 : x = 2 * H
    · have e : x + u * H = ((u : Int) + 2) * H := by rw [h3, Int.add_mul]; omega
      rw [e, Int.mul_emod_left, Int.mul_ediv_cancel _ (by omega), show ((u : Int) + 2 - 1).toNat = u + 1 by omega, h3, Int.pow_succ]
      rw [Int.zero_add, ← Int.mul_assoc, Int.mul_comm _ (2 : Int), ← Int.mul_assoc]
    · have e : x + u * H = (x - H) + ((u : Int) + 1) * H := by rw [Int.add_mul]; omega
      rw [e, Int.add_mul_emod_self_right, Int.add_mul_ediv_right _ _ (by omega), Int.emod_eq_of_lt (by omega) (by omega), Int.ediv_eq_zero_of_lt (by omega) (by omega)]
      rw [show (0 + ((u : Int) + 1) - 1).toNat = u by omega, show x - H + H = x by omega]
theorem fv_form {H b : Int} (hH : 0 < H) (hb : 0 ≤ b) : ∃ (x : Int) (u : Nat), b = x + u * H ∧ 0 ≤ x ∧ x < 2 * H ∧ (u = 0 ∨ H ≤ x) ∧ fv H b = x * 2 ^ u ∧ fv H (b + 1) = (x + 1) * 2 ^ u := by
  have key : ∀ (x : Int) (u : Nat), b = x + u * H → 0 ≤ x → x < 2 * H → (u = 0 ∨ H ≤ x) → ∃ (x : Int) (u : Nat), b = x + u * H ∧ 0 ≤ x ∧ x < 2 * H ∧ (u = 0 ∨ H ≤ x) ∧ fv H b = x * 2 ^ u ∧ fv H (b + 1) = (x + 1) * 2 ^ u := fun x u e h1 h2 h3 => by
    refine ⟨x, u, e, h1, h2, h3, ?_, ?_⟩
    · rw [e]; exact fv_of hH u h1 (by omega) h3
    · rw [show b + 1 = (x + 1) + u * H by omega]; exact fv_of hH u (by omega) (by omega) (by omega)
  by_cases h : b < H
  · exact key b 0 (by simp) hb (by omega) (.inl rfl)
  · have e := Int.emod_add_mul_ediv b H
    have h1 := Int.emod_nonneg b (show H ≠ 0 by omega)
    have h2 := Int.emod_lt_of_pos b hH
    have h3 : 1 ≤ b / H := (Int.le_ediv_iff_mul_le hH).2 (by omega)
    refine key (b % H + H) (b / H - 1).toNat ?_ (by omega) (by omega) (.inr (by omega))
    rw [show (((b / H - 1).toNat : Nat) : Int) = b / H - 1 by omega, Int.sub_mul, Int.one_mul, Int.mul_comm (b / H)]
    omega
theorem fv_lt {H b : Int} (hH : 0 < H) (hb : 0 ≤ b) : fv H b < fv H (b + 1) := by
  obtain ⟨x, u, _, _, _, _, e1, e2⟩ := fv_form hH hb
  rw [e1, e2, Int.add_mul, Int.one_mul]
  have := Ma.pow_pos (show (0 : Int) < 2 by omega) u
  omega
theorem fv_add {H b : Int} (hH : 0 < H) (hb : 0 ≤ b) : ∀ n : Nat, fv H b + n ≤ fv H (b + n)
  | 0 => by simp
  | n + 1 => by
    have h1 := fv_add hH hb n
    have h2 := fv_lt hH (b := b + n) (by omega)
    rw [show b + ((n + 1 : Nat) : Int) = b + n + 1 by omega]
    omega
theorem fv_mono {H a b : Int} (hH : 0 < H) (ha : 0 ≤ a) (h : a ≤ b) : fv H a ≤ fv H b := by
  have := fv_add hH ha (b - a).toNat
  rw [show a + ((b - a).toNat : Int) = b by omega] at this
  omega
theorem fv_zero {H : Int} (hH : 0 < H) : fv H 0 = 0 := by unfold fv; rw [if_pos hH]
theorem fv_nonneg {H b : Int} (hH : 0 < H) (hb : 0 ≤ b) : 0 ≤ fv H b := by
  have := fv_mono hH (Int.le_refl 0) hb
  rw [fv_zero hH] at this
  exact this
/-- a fraction N over D, in units of the least float, rounded: bits, exact, not too great -/
def upR (H N D b : Int) : Prop := (fv H b + fv H (b + 1)) * D < 2 * N ∨ (fv H b + fv H (b + 1)) * D = 2 * N ∧ b % 2 = 1
instance (H N D b : Int) : Decidable (upR H N D b) := by unfold upR; infer_instance
def RndR (H G N D : Int) (r : Int × Bool × Int) : Prop :=
  ((fv H G + fv H (G + 1)) * D ≤ 2 * N ∧ r = (0, false, 34)) ∨
  ((¬ (fv H G + fv H (G + 1)) * D ≤ 2 * N) ∧ ∃ b0, 0 ≤ b0 ∧ b0 ≤ G ∧ fv H b0 * D ≤ N ∧ N < fv H (b0 + 1) * D ∧ r = (if upR H N D b0 then b0 + 1 else b0, decide (fv H b0 * D = N), 0))
theorem floor_unique {H N D a b : Int} (hH : 0 < H) (hD : 0 < D) (ha : 0 ≤ a) (hb : 0 ≤ b) (h1 : fv H a * D ≤ N) (h2 : N < fv H (a + 1) * D) (h3 : fv H b * D ≤ N) (h4 : N < fv H (b + 1) * D) : a = b := by
  rcases Int.lt_trichotomy a b with h | h | h
  · have := Int.mul_le_mul_of_nonneg_right (fv_mono hH (show 0 ≤ a + 1 by omega) (show a + 1 ≤ b by omega)) (Int.le_of_lt hD)
    omega
  · exact h
  · have := Int.mul_le_mul_of_nonneg_right (fv_mono hH (show 0 ≤ b + 1 by omega) (show b + 1 ≤ a by omega)) (Int.le_of_lt hD)
    omega
theorem RndR.unique {H G N D : Int} {r s : Int × Bool × Int} (hH : 0 < H) (hD : 0 < D) (h : RndR H G N D r) (k : RndR H G N D s) : r = s := by
  rcases h with ⟨h, rfl⟩ | ⟨h, b0, h0, hG, h1, h2, rfl⟩ <;> rcases k with ⟨k, rfl⟩ | ⟨k, b1, k0, kG, k1, k2, rfl⟩
  · rfl
  · exact absurd h k
  · exact absurd k h
  · obtain rfl := floor_unique hH hD h0 k0 h1 h2 k1 k2
    rfl
/-- of a floor found anywhere -/
theorem RndR.of {H G N D b0 : Int} (hH : 0 < H) (hD : 0 < D) (hG : 0 ≤ G) (hGo : G % 2 = 1) (h0 : 0 ≤ b0) (h1 : fv H b0 * D ≤ N) (h2 : N < fv H (b0 + 1) * D) :
    RndR H G N D (if (if upR H N D b0 then b0 + 1 else b0) ≤ G then (if upR H N D b0 then b0 + 1 else b0, decide (fv H b0 * D = N), 0) else (0, false, 34)) := by
  have hs : (fv H G + fv H (G + 1)) * D = fv H G * D + fv H (G + 1) * D := Int.add_mul ..
  have hl := Int.mul_lt_mul_of_pos_right (fv_lt hH hG) hD
  have hm : ∀ {a b : Int}, 0 ≤ a → a ≤ b → fv H a * D ≤ fv H b * D := fun ha h => Int.mul_le_mul_of_nonneg_right (fv_mono hH ha h) (Int.le_of_lt hD)
  rcases Int.lt_trichotomy b0 G with h | h | h
  · have := hm (a := b0 + 1) (by omega) (show b0 + 1 ≤ G by omega)
    rw [if_pos (by split <;> omega)]
    exact .inr ⟨by omega, b0, h0, by omega, h1, h2, rfl⟩
  · subst h
    by_cases hu : upR H N D b0
    · rw [if_pos hu, if_neg (by omega)]
      refine .inl ⟨?_, rfl⟩
      rcases hu with h | h <;> omega
    · rw [if_neg hu, if_pos (Int.le_refl _)]
      refine .inr ⟨?_, b0, h0, Int.le_refl _, h1, h2, ?_⟩
      · intro h
        apply hu
        rcases Int.lt_or_eq_of_le h with h | h
        · exact .inl h
        · exact .inr ⟨h, hGo⟩
      · rw [if_neg hu]
  · have := hm (a := G + 1) (by omega) (show G + 1 ≤ b0 by omega)
    rw [if_neg (by split <;> omega)]
    exact .inl ⟨by omega, rfl⟩
theorem RndR.huge {H G N D : Int} {r : Int × Bool × Int} (hH : 0 < H) (hD : 0 < D) (hG : 0 ≤ G) (h : RndR H G N D r) (hN : fv H (G + 1) * D ≤ N) : r = (0, false, 34) := by
  rcases h with ⟨_, h⟩ | ⟨h, _⟩
  · exact h
  · have hs : (fv H G + fv H (G + 1)) * D = fv H G * D + fv H (G + 1) * D := Int.add_mul ..
    have hl := Int.mul_lt_mul_of_pos_right (fv_lt hH hG) hD
    omega
theorem RndR.ofhuge {H G N D : Int} (hH : 0 < H) (hD : 0 < D) (hG : 0 ≤ G) (hN : fv H (G + 1) * D ≤ N) : RndR H G N D (0, false, 34) := by
  have hs : (fv H G + fv H (G + 1)) * D = fv H G * D + fv H (G + 1) * D := Int.add_mul ..
  have hl := Int.mul_lt_mul_of_pos_right (fv_lt hH hG) hD
  exact .inl ⟨by omega, rfl⟩
theorem RndR.oftiny {H G N D : Int} (hH : 1 < H) (hG : 0 < G) (hGo : G % 2 = 1) (h0 : 0 < N) (h2 : 2 * N < D) : RndR H G N D (0, false, 0) := by
  have e0 := fv_zero (H := H) (by omega)
  have e1 : fv H (0 + 1) = 1 := by unfold fv; rw [if_pos (by omega)]; rfl
  have hu : ¬ upR H N D 0 := by unfold upR; rw [e0, e1]; omega
  have := RndR.of (H := H) (G := G) (N := N) (D := D) (b0 := 0) (by omega) (by omega) (by omega) hGo (by omega) (by rw [e0]; omega) (by rw [e1]; omega)
  rw [if_neg hu, if_pos (by omega), e0, decide_eq_false (by omega)] at this
  exact this

/-! ### pack -/
def sw (man down : Int) (some : Bool) : Int × Int × Bool :=
  if down < 0 then (man * 2 ^ (-down).toNat % 18446744073709551616, 0, some) else if 64 < down then (0, 0, true) else if 0 < down then (man / 2 ^ down.toNat, man * 2 ^ (64 - down.toNat) % 18446744073709551616, some) else (man, 0, some)
def tailP (d : Kd) (x rest : Int) (some : Bool) (u : Int) : Int × Bool × Int :=
  let x1 := if 9223372036854775808 < rest ∨ rest = 9223372036854775808 ∧ (some = true ∨ x % 2 = 1) then x + 1 else x
  let p := if x1 / 2 ^ d.M = 1 then (x1 / 2, u + 1) else (x1, u)
  let x3 := if p.1 / d.H = 1 then p.1 + p.2 * d.H else p.1
  if d.I ≤ x3 then (0, false, 34) else (x3, decide (rest = 0 ∧ some = false), 0)
def packF (d : Kd) (man exp : Int) (some : Bool) : Int × Bool × Int :=
  let e := min (max exp (-2500)) 2500
  let unit := max (e + Ma.blen man - d.M) (-(d.l : Int))
  let s := sw man (unit - e) some
  tailP d s.1 s.2.1 s.2.2 (unit + d.l)
theorem div_one {x y : Int} (hy : 0 < y) : x / y = 1 ↔ y ≤ x ∧ x < 2 * y := by
  constructor
  · intro h
    have e := Int.emod_add_mul_ediv x y
    have h1 := Int.emod_nonneg x (show y ≠ 0 by omega)
    have h2 := Int.emod_lt_of_pos x hy
    rw [h] at e
    omega
  · rintro ⟨h1, h2⟩
    have h3 : 1 ≤ x / y := (Int.le_ediv_iff_mul_le hy).2 (by omega)
    have h4 : x / y < 2 := Int.ediv_lt_of_lt_mul hy (by omega)
    omega
theorem Kd.I_lt (d : Kd) : 0 < d.I - 1 ∧ (d.I - 1) % 2 = 1 ∧ 1 < d.H := by cases d <;> decide
/-- the tail of pack puts whole and unit together -/
theorem tail_val (d : Kd) {x rest : Int} {some : Bool} {u : Nat} (h0 : 0 ≤ x) (h1 : x < 2 * d.H) (hu : u = 0 ∨ d.H ≤ x) {b1 : Int}
    (hb : b1 = if 9223372036854775808 < rest ∨ rest = 9223372036854775808 ∧ (some = true ∨ x % 2 = 1) then x + u * d.H + 1 else x + u * d.H) :
    tailP d x rest some u = if d.I ≤ b1 then (0, false, 34) else (b1, decide (rest = 0 ∧ some = false), 0) := by
  have hH := d.hH0
  have key : ∀ x1 : Int, 0 ≤ x1 → x1 ≤ 2 * d.H → (u = 0 ∨ d.H ≤ x1) →
      (let p := if x1 / 2 ^ d.M = 1 then (x1 / 2, (u : Int) + 1) else (x1, (u : Int)); if p.1 / d.H = 1 then p.1 + p.2 * d.H else p.1) = x1 + u * d.H := fun x1 hx0 hx1 hxu => by
    rw [d.hM]
    by_cases hc : x1 / (2 * d.H) = 1
    · have hx := ((div_one (by omega)).1 hc).1
      have hx2 : x1 = 2 * d.H := by omega
      simp only [if_pos hc]
      rw [if_pos ((div_one hH).2 (by omega)), Int.add_mul]
      omega
    · have hx : x1 < 2 * d.H := by
        rcases Int.lt_or_le x1 (2 * d.H) with h | h
        · exact h
        · exact absurd ((div_one (by omega)).2 ⟨h, by omega⟩) hc
      simp only [if_neg hc]
      by_cases hl : d.H ≤ x1
      · rw [if_pos ((div_one hH).2 (by omega))]
      · rw [if_neg (fun h => hl ((div_one hH).1 h).1)]
        obtain rfl : u = 0 := by omega
        simp
  unfold tailP
  by_cases hc : 9223372036854775808 < rest ∨ rest = 9223372036854775808 ∧ (some = true ∨ x % 2 = 1)
  · rw [if_pos hc] at hb
    have := key (x + 1) (by omega) (by omega) (by omega)
    simp only [if_pos hc]
    simp only at this
    rw [this, hb, show x + 1 + (u : Int) * d.H = x + u * d.H + 1 by omega]
  · rw [if_neg hc] at hb
    have := key x (by omega) (by omega) (by omega)
    simp only [if_neg hc]
    simp only at this
    rw [this, hb]
theorem tail_rnd (d : Kd) {N D x rest : Int} {some : Bool} {u : Nat} (hD : 0 < D) (h0 : 0 ≤ x) (h1 : x < 2 * d.H) (hu : u = 0 ∨ d.H ≤ x) (hf1 : x * (2 ^ u * D) ≤ N) (hf2 : N < (x + 1) * (2 ^ u * D))
    (hup : (9223372036854775808 < rest ∨ rest = 9223372036854775808 ∧ (some = true ∨ x % 2 = 1)) ↔ ((2 * x + 1) * (2 ^ u * D) < 2 * N ∨ (2 * x + 1) * (2 ^ u * D) = 2 * N ∧ x % 2 = 1))
    (hex : (rest = 0 ∧ some = false) ↔ x * (2 ^ u * D) = N) : RndR d.H (d.I - 1) N D (tailP d x rest some u) := by
  have hH := d.hH0
  have hG := d.I_lt
  have hb0 : 0 ≤ x + u * d.H := by have := Int.mul_nonneg (show (0 : Int) ≤ u by omega) (Int.le_of_lt hH); omega
  have e1 : fv d.H (x + u * d.H) = x * 2 ^ u := fv_of hH u h0 (by omega) hu
  have e2 : fv d.H (x + u * d.H + 1) = (x + 1) * 2 ^ u := by
    rw [show x + u * d.H + 1 = (x + 1) + u * d.H by omega]; exact fv_of hH u (by omega) (by omega) (by omega)
  have hev : (x + u * d.H) % 2 = x % 2 := by
    have : ∃ q : Int, d.H = 2 * q := by
      cases d
      · exact ⟨4194304, rfl⟩
      · exact ⟨2251799813685248, rfl⟩
    obtain ⟨q, hq⟩ := this
    rw [hq, ← Int.mul_assoc, Int.mul_comm (u : Int) 2, Int.mul_assoc]
    omega
  have hupR : upR d.H N D (x + u * d.H) ↔ (9223372036854775808 < rest ∨ rest = 9223372036854775808 ∧ (some = true ∨ x % 2 = 1)) := by
    rw [hup]
    unfold upR
    rw [e1, e2, hev, ← Int.add_mul, show x + (x + 1) = 2 * x + 1 by omega, Int.mul_assoc]
  have h := RndR.of (H := d.H) (G := d.I - 1) (N := N) (D := D) hH hD (by omega) hG.2.1 hb0 (by rw [e1, Int.mul_assoc]; exact hf1) (by rw [e2, Int.mul_assoc]; exact hf2)
  have hd : decide (fv d.H (x + ↑u * d.H) * D = N) = decide (rest = 0 ∧ some = false) := by
    rw [e1, Int.mul_assoc]; exact decide_eq_decide.2 hex.symm
  rw [hd] at h
  by_cases hC : 9223372036854775808 < rest ∨ rest = 9223372036854775808 ∧ (some = true ∨ x % 2 = 1)
  · rw [tail_val d h0 h1 hu (b1 := x + u * d.H + 1) (by rw [if_pos hC])]
    rw [if_pos (hupR.2 hC)] at h
    split at h <;> rename_i hc
    · rw [if_neg (by omega)]; exact h
    · rw [if_pos (by omega)]; exact h
  · rw [tail_val d h0 h1 hu (b1 := x + u * d.H) (by rw [if_neg hC])]
    rw [if_neg (fun k => hC (hupR.1 k))] at h
    split at h <;> rename_i hc
    · rw [if_neg (by omega)]; exact h
    · rw [if_pos (by omega)]; exact h
theorem half_cmp {M X r h : Int} {some : Bool} (hX : 0 < X) (hh : 0 < h) (h1 : r * X ≤ M * (2 * h)) (h2 : M * (2 * h) < (r + 1) * X) (h3 : some = true ↔ r * X < M * (2 * h)) :
    (h < r → X < 2 * M) ∧ (r = h → some = true → X < 2 * M) ∧ (r = h → some = false → X = 2 * M) ∧ (r < h → 2 * M < X) := by
  have e : M * (2 * h) = (2 * M) * h := by rw [← Int.mul_assoc, Int.mul_comm M 2]
  rw [e] at h1 h2 h3
  refine ⟨fun hr => ?_, fun hr hs => ?_, fun hr hs => ?_, fun hr => ?_⟩
  · have : (h + 1) * X ≤ r * X := Int.mul_le_mul_of_nonneg_right (by omega) (by omega)
    rw [Int.add_mul] at this
    refine Int.lt_of_mul_lt_mul_right (a := h) ?_ (by omega)
    rw [Int.mul_comm X]; omega
  · have := h3.1 hs
    subst hr
    refine Int.lt_of_mul_lt_mul_right (a := r) ?_ (by omega)
    rw [Int.mul_comm X]; omega
  · have : ¬ r * X < 2 * M * h := fun k => by rw [h3.2 k] at hs; cases hs
    subst hr
    refine Int.eq_of_mul_eq_mul_right (a := r) (by omega) ?_
    rw [Int.mul_comm X]; omega
  · have : (r + 1) * X ≤ h * X := Int.mul_le_mul_of_nonneg_right (by omega) (by omega)
    refine Int.lt_of_mul_lt_mul_right (a := h) ?_ (by omega)
    rw [Int.mul_comm X]; omega
theorem scaleP {c D : Int} {a b u k : Nat} (h : a + k = u + b) : c * 2 ^ a * D * 2 ^ k = c * (2 ^ u * D) * 2 ^ b := by
  have e : (2 : Int) ^ a * 2 ^ k = 2 ^ u * 2 ^ b := by rw [← Int.pow_add, ← Int.pow_add, h]
  rw [Int.mul_right_comm (c * 2 ^ a), Int.mul_assoc c, e, Int.mul_assoc c, Int.mul_assoc c, Int.mul_right_comm (2 ^ u)]
theorem p2 (n : Nat) : (0 : Int) < 2 ^ n := Ma.pow_pos (by omega) n
theorem pack_main (d : Kd) {man exp N D : Int} {some : Bool} {a b : Nat} (hm : 0 < man ∧ man < 18446744073709551616) (hs : some = true → 2 ^ 62 ≤ man) (hD : 0 < D) (hr : -2500 ≤ exp ∧ exp ≤ 2500) (he : exp = a - b - d.l)
    (h1 : man * 2 ^ a * D ≤ N * 2 ^ b) (h2 : N * 2 ^ b < (man + 1) * 2 ^ a * D) (h3 : some = true ↔ man * 2 ^ a * D < N * 2 ^ b) : RndR d.H (d.I - 1) N D (packF d man exp some) := by
  have hH := d.hH0
  have hMM : 1 ≤ d.M ∧ d.M ≤ 53 := by cases d <;> decide
  have hM1 : (2 : Int) ^ (d.M - 1) = d.H := by cases d <;> rfl
  obtain ⟨k, hk, hk1, hk2⟩ := Ma.blen_spec hm.1
  have hk63 : k ≤ 63 := by
    have : Ma.blen man ≤ (64 : Nat) := (Ma.blen_le_iff (by omega) 64).2 (by rw [show (2 : Int) ^ 64 = 18446744073709551616 by rfl]; omega)
    omega
  obtain ⟨unit, hun⟩ : ∃ unit, unit = max (exp + Ma.blen man - d.M) (-(d.l : Int)) := ⟨_, rfl⟩
  obtain ⟨u, hu⟩ : ∃ u : Nat, unit + d.l = u := ⟨(unit + d.l).toNat, by omega⟩
  have hp : packF d man exp some = tailP d (sw man (unit - exp) some).1 (sw man (unit - exp) some).2.1 (sw man (unit - exp) some).2.2 u := by
    unfold packF
    simp only
    rw [show min (max exp (-2500)) 2500 = exp by omega, ← hun, hu]
  rw [hp]
  have hX : 0 < 2 ^ u * D := Int.mul_pos (p2 u) hD
  have hs62 : some = true → 62 ≤ k := fun h => by
    have := hs h
    rcases Nat.lt_or_ge k 62 with h | h
    · have := Ma.pow_mono (show (1 : Int) ≤ 2 by omega) (show k + 1 ≤ 62 by omega)
      omega
    · exact h
  unfold sw
  by_cases c1 : unit - exp < 0
  · rw [if_pos c1]
    obtain ⟨t, ht⟩ : ∃ t : Nat, -(unit - exp) = t := ⟨(-(unit - exp)).toNat, by omega⟩
    rw [ht, Int.toNat_natCast]
    have hkt : k + 1 + t ≤ d.M := by omega
    have hsf : some = false := by
      rcases Bool.eq_false_or_eq_true some with h | h
      · have := hs62 h; omega
      · exact h
    have hlt : man * 2 ^ t < 2 * d.H := by
      have e1 : man * 2 ^ t < 2 ^ (k + 1) * 2 ^ t := Int.mul_lt_mul_of_pos_right hk2 (p2 t)
      have e2 := Ma.pow_mono (show (1 : Int) ≤ 2 by omega) hkt
      rw [Int.pow_add, d.hM] at e2
      omega
    have hge : 0 ≤ man * 2 ^ t := Int.mul_nonneg (by omega) (Int.le_of_lt (p2 t))
    have hH53 : 2 * d.H ≤ 18446744073709551616 := by cases d <;> decide
    have hau : a + 0 = (t + u) + b := by omega
    have heq : N = man * 2 ^ t * (2 ^ u * D) := by
      have hne : ¬ man * 2 ^ a * D < N * 2 ^ b := fun h => by rw [h3.2 h] at hsf; cases hsf
      have e := scaleP (c := man) (D := D) hau
      rw [Int.pow_zero, Int.mul_one] at e
      refine Int.eq_of_mul_eq_mul_right (a := 2 ^ b) (by have := p2 b; omega) ?_
      have : N * 2 ^ b = man * 2 ^ a * D := by omega
      rw [this, e, Int.pow_add, Int.mul_assoc (2 ^ t), ← Int.mul_assoc man]
    rw [Int.emod_eq_of_lt hge (by omega)]
    show RndR _ _ _ _ (tailP d (man * 2 ^ t) 0 some u)
    refine tail_rnd d hD hge hlt ?_ (by omega) (by rw [heq, Int.add_mul (man * 2 ^ t), Int.one_mul]; omega) ?_ ?_
    · rcases Nat.eq_zero_or_pos u with h | h
      · exact .inl h
      · refine .inr ?_
        have e1 : 2 ^ k * 2 ^ t ≤ man * 2 ^ t := Int.mul_le_mul_of_nonneg_right hk1 (Int.le_of_lt (p2 t))
        rw [← Int.pow_add, show k + t = d.M - 1 by omega, hM1] at e1
        exact e1
    · have : (2 * (man * 2 ^ t) + 1) * (2 ^ u * D) = 2 * N + 2 ^ u * D := by rw [heq, Int.add_mul, Int.one_mul, Int.mul_assoc]
      rw [this]
      constructor
      · intro h; omega
      · intro h; omega
    · simp [hsf, heq]
  · rw [if_neg c1]
    obtain ⟨t, ht⟩ : ∃ t : Nat, unit - exp = t := ⟨(unit - exp).toNat, by omega⟩
    have hau : a + t = u + b := by omega
    have g1 : man * (2 ^ u * D) ≤ N * 2 ^ t := by
      have := Int.mul_le_mul_of_nonneg_right h1 (Int.le_of_lt (p2 t))
      rw [scaleP hau, Int.mul_right_comm N] at this
      exact Int.le_of_mul_le_mul_right this (p2 b)
    have g2 : N * 2 ^ t < (man + 1) * (2 ^ u * D) := by
      have := Int.mul_lt_mul_of_pos_right h2 (p2 t)
      rw [scaleP hau, Int.mul_right_comm N] at this
      exact Int.lt_of_mul_lt_mul_right this (Int.le_of_lt (p2 b))
    have g3 : some = true ↔ man * (2 ^ u * D) < N * 2 ^ t := by
      rw [h3]
      constructor
      · intro h
        have := Int.mul_lt_mul_of_pos_right h (p2 t)
        rw [scaleP hau, Int.mul_right_comm N] at this
        exact Int.lt_of_mul_lt_mul_right this (Int.le_of_lt (p2 b))
      · intro h
        have := Int.mul_lt_mul_of_pos_right h (p2 b)
        rw [← scaleP hau, Int.mul_right_comm N] at this
        exact Int.lt_of_mul_lt_mul_right this (Int.le_of_lt (p2 t))
    by_cases c2 : 64 < unit - exp
    · rw [if_pos c2]
      show RndR _ _ _ _ (tailP d 0 0 true u)
      have hu0 : u = 0 := by omega
      have hN0 : 0 < N := by
        refine Int.lt_of_mul_lt_mul_right (a := 2 ^ t) ?_ (Int.le_of_lt (p2 t))
        have := Int.mul_pos hm.1 hX
        omega
      have hN2 : 2 * N < 2 ^ u * D := by
        have e1 : (man + 1) * (2 ^ u * D) ≤ 18446744073709551616 * (2 ^ u * D) := Int.mul_le_mul_of_nonneg_right (by omega) (by omega)
        have e2 := Ma.pow_mono (show (1 : Int) ≤ 2 by omega) (show 65 ≤ t by omega)
        have e3 := Int.mul_le_mul_of_nonneg_left e2 (Int.le_of_lt hN0)
        rw [show (2 : Int) ^ 65 = 36893488147419103232 by rfl] at e3
        omega
      refine tail_rnd d hD (by omega) (by omega) (.inl hu0) (by omega) (by omega) ?_ ?_
      · constructor
        · intro h; simp at h
        · intro h; omega
      · constructor
        · intro h; cases h.2
        · intro h; omega
    · rw [if_neg c2]
      by_cases c3 : 0 < unit - exp
      · rw [if_pos c3, ht, Int.toNat_natCast]
        obtain ⟨t', rfl⟩ : ∃ t', t = t' + 1 := ⟨t - 1, by omega⟩
        have e := Int.emod_add_mul_ediv man (2 ^ (t' + 1))
        have r0 := Int.emod_nonneg man (show (2 : Int) ^ (t' + 1) ≠ 0 by have := p2 (t' + 1); omega)
        have r1 := Int.emod_lt_of_pos man (p2 (t' + 1))
        have hrest : man * 2 ^ (64 - (t' + 1)) % 18446744073709551616 = man % 2 ^ (t' + 1) * 2 ^ (64 - (t' + 1)) := by
          have := shl_low (x := man) (k := 64 - (t' + 1)) (by omega)
          rwa [show 64 - (64 - (t' + 1)) = t' + 1 by omega] at this
        have hq0 : 0 ≤ man / 2 ^ (t' + 1) := Int.ediv_nonneg (by omega) (Int.le_of_lt (p2 _))
        have hq1 : man / 2 ^ (t' + 1) < 2 * d.H := by
          refine Int.ediv_lt_of_lt_mul (p2 _) ?_
          rw [← d.hM, ← Int.pow_add]
          exact Int.lt_of_lt_of_le hk2 (Ma.pow_mono (by omega) (by omega))
        have hqu : u = 0 ∨ d.H ≤ man / 2 ^ (t' + 1) := by
          rcases Nat.eq_zero_or_pos u with h | h
          · exact .inl h
          · refine .inr ((Int.le_ediv_iff_mul_le (p2 _)).2 ?_)
            rw [← hM1, ← Int.pow_add]
            exact Int.le_trans (Ma.pow_mono (by omega) (by omega)) hk1
        rw [hrest]
        show RndR _ _ _ _ (tailP d (man / 2 ^ (t' + 1)) (man % 2 ^ (t' + 1) * 2 ^ (64 - (t' + 1))) some u)
        generalize man / 2 ^ (t' + 1) = q at *
        generalize man % 2 ^ (t' + 1) = r at *
        obtain ⟨X, hXe⟩ : ∃ X, X = 2 ^ u * D := ⟨_, rfl⟩
        rw [← hXe] at g1 g2 g3 hX
        obtain ⟨h, hh⟩ : ∃ h : Int, h = 2 ^ t' := ⟨_, rfl⟩
        have hh0 : 0 < h := hh ▸ p2 t'
        have h2h : (2 : Int) ^ (t' + 1) = 2 * h := by rw [Int.pow_succ, hh, Int.mul_comm]
        rw [h2h] at e r1 g1 g2 g3
        obtain ⟨Mn, hMn⟩ : ∃ Mn, Mn = N - q * X := ⟨_, rfl⟩
        have eman : man * X = r * X + q * X * (2 * h) := by rw [← e, Int.add_mul, Int.mul_comm (2 * h) q, Int.mul_right_comm q]
        have eN : N * (2 * h) = Mn * (2 * h) + q * X * (2 * h) := by rw [← Int.add_mul]; congr 1; omega
        have k1 : r * X ≤ Mn * (2 * h) := by omega
        have k2 : Mn * (2 * h) < (r + 1) * X := by rw [Int.add_mul] at g2 ⊢; omega
        have k3 : some = true ↔ r * X < Mn * (2 * h) := by rw [g3]; omega
        obtain ⟨p1, p2', p3, p4⟩ := half_cmp hX hh0 k1 k2 k3
        have hrX : 0 ≤ r * X := Int.mul_nonneg r0 (Int.le_of_lt hX)
        have hM0 : 0 ≤ Mn := by
          rcases Int.lt_or_le Mn 0 with h' | h'
          · have := Int.mul_neg_of_neg_of_pos h' (show 0 < 2 * h by omega); omega
          · exact h'
        have hM1' : Mn < X := by
          refine Int.lt_of_mul_lt_mul_right (a := 2 * h) ?_ (by omega)
          have : (r + 1) * X ≤ 2 * h * X := Int.mul_le_mul_of_nonneg_right (by omega) (by omega)
          rw [Int.mul_comm X]; omega
        obtain ⟨z, hz⟩ : ∃ z : Int, z = 2 ^ (64 - (t' + 1)) := ⟨_, rfl⟩
        have hz0 : 0 < z := hz ▸ p2 _
        have hzh : (9223372036854775808 : Int) = h * z := by rw [hh, hz, ← Int.pow_add, show t' + (64 - (t' + 1)) = 63 by omega]; rfl
        have hgt : 9223372036854775808 < r * z ↔ h < r := by rw [hzh]; exact Int.mul_lt_mul_right hz0
        have heq' : r * z = 9223372036854775808 ↔ r = h := by
          rw [hzh]; exact ⟨fun k => Int.eq_of_mul_eq_mul_right (by omega) k, fun k => by rw [k]⟩
        have hr00 : r * z = 0 ↔ r = 0 := by
          constructor
          · intro k
            rcases Int.mul_eq_zero.1 k with k | k
            · exact k
            · omega
          · intro k; rw [k, Int.zero_mul]
        rw [← hz]
        have e2q : (2 * q + 1) * X = 2 * (q * X) + X := by rw [Int.add_mul, Int.one_mul, Int.mul_assoc]
        refine tail_rnd d hD hq0 hq1 hqu (by rw [← hXe]; omega) (by rw [← hXe, Int.add_mul]; omega) ?_ ?_
        · rw [← hXe, hgt, heq', e2q]
          constructor
          · rintro (k | ⟨k, k' | k'⟩)
            · have := p1 k; left; omega
            · have := p2' k k'; left; omega
            · rcases Bool.eq_false_or_eq_true some with ks | ks
              · have := p2' k ks; left; omega
              · have := p3 k ks; right; exact ⟨by omega, k'⟩
          · intro k
            rcases Int.lt_trichotomy r h with kr | kr | kr
            · have := p4 kr; omega
            · right
              refine ⟨kr, ?_⟩
              rcases Bool.eq_false_or_eq_true some with ks | ks
              · exact .inl ks
              · have := p3 kr ks
                rcases k with k | k
                · omega
                · exact .inr k.2
            · exact .inl kr
        · rw [← hXe, hr00]
          constructor
          · rintro ⟨rfl, ks⟩
            have : ¬ 0 * X < Mn * (2 * h) := fun k => by rw [k3.2 k] at ks; cases ks
            rw [Int.zero_mul] at this
            rcases Int.lt_or_le 0 Mn with h' | h'
            · have := Int.mul_pos h' (show 0 < 2 * h by omega); omega
            · omega
          · intro k
            have hM00 : Mn = 0 := by omega
            rw [hM00, Int.zero_mul] at k1 k3
            have hr0' : r = 0 := by
              rcases Int.lt_or_le 0 r with h' | h'
              · have := Int.mul_pos h' hX; omega
              · omega
            refine ⟨hr0', ?_⟩
            rcases Bool.eq_false_or_eq_true some with ks | ks
            · have := k3.1 ks; omega
            · exact ks
      · rw [if_neg c3]
        show RndR _ _ _ _ (tailP d man 0 some u)
        obtain rfl : t = 0 := by omega
        have hsf : some = false := by
          rcases Bool.eq_false_or_eq_true some with h | h
          · have := hs62 h; omega
          · exact h
        rw [Int.pow_zero, Int.mul_one] at g1 g3
        have heq : N = man * (2 ^ u * D) := by
          have hne : ¬ man * (2 ^ u * D) < N := fun h => by rw [g3.2 h] at hsf; cases hsf
          omega
        have hq1 : man < 2 * d.H := by
          rw [← d.hM]
          exact Int.lt_of_lt_of_le hk2 (Ma.pow_mono (by omega) (by omega))
        refine tail_rnd d hD (by omega) hq1 ?_ (by omega) (by rw [heq, Int.add_mul man, Int.one_mul]; omega) ?_ ?_
        · rcases Nat.eq_zero_or_pos u with h | h
          · exact .inl h
          · refine .inr ?_
            rw [← hM1]
            exact Int.le_trans (Ma.pow_mono (by omega) (by omega)) hk1
        · have : (2 * man + 1) * (2 ^ u * D) = 2 * N + 2 ^ u * D := by rw [heq, Int.add_mul, Int.one_mul, Int.mul_assoc]
          rw [this]
          constructor
          · intro h; omega
          · intro h; omega
        · simp [hsf, heq]

theorem Kd.fvI (d : Kd) : fv d.H (d.I - 1 + 1) ≤ 2 ^ 2099 := by
  have hM1 : (2 : Int) ^ (d.M - 1) = d.H := by cases d <;> rfl
  obtain ⟨X, hX, hl⟩ : ∃ X : Nat, d.I - 1 + 1 = d.H + X * d.H ∧ d.M - 1 + X ≤ 2099 := by
    cases d
    · exact ⟨254, by decide, by decide⟩
    · exact ⟨2046, by decide, by decide⟩
  have hH := d.hH0
  rw [hX, fv_of hH X (by omega) (by omega) (.inr (by omega)), ← hM1, ← Int.pow_add]
  exact Ma.pow_mono (by omega) hl
theorem Kd.hl (d : Kd) : 100 ≤ d.l ∧ d.l ≤ 1074 := by cases d <;> decide
theorem pack_big (d : Kd) {man exp : Int} {some : Bool} (hm : 0 < man ∧ man < 18446744073709551616) (hs : some = true → 2 ^ 62 ≤ man) (he : 2000 < exp) : packF d man exp some = (0, false, 34) := by
  have hH := d.hH0
  have hl := d.hl
  obtain ⟨x, hx⟩ : ∃ x : Nat, min exp 2500 = (x : Int) := ⟨(min exp 2500).toNat, by omega⟩
  have hp : packF d man exp some = packF d man (x : Int) some := by
    unfold packF
    simp only
    rw [show min (max exp (-2500)) 2500 = (x : Int) by omega, show min (max (x : Int) (-2500)) 2500 = (x : Int) by omega]
  rw [hp]
  have hp2 := p2 (x + d.l)
  have hmul : ∀ c : Int, c * 2 ^ (x + d.l) * 2 = 2 * (c * 2 ^ (x + d.l)) := fun c => Int.mul_comm _ _
  have h := pack_main d (man := man) (exp := x) (N := 2 * (man * 2 ^ (x + d.l)) + (if some = true then 1 else 0)) (D := 2) (some := some) (a := x + d.l) (b := 0) hm hs (by omega) (by omega) (by omega)
    (by rw [hmul]; split <;> omega) (by rw [hmul, Int.add_mul man, Int.one_mul]; split <;> omega) (by rw [hmul]; split <;> simp_all <;> omega)
  refine h.huge hH (by omega) (by have := d.I_lt; omega) ?_
  have h1 := d.fvI
  have h2 := Ma.pow_mono (show (1 : Int) ≤ 2 by omega) (show 2099 ≤ x + d.l by omega)
  have h3 : 1 * 2 ^ (x + d.l) ≤ man * 2 ^ (x + d.l) := Int.mul_le_mul_of_nonneg_right (by omega) (by omega)
  split <;> omega
theorem pack_small (d : Kd) {man exp : Int} {some : Bool} (hm : 0 < man ∧ man < 18446744073709551616) (hs : some = true → 2 ^ 62 ≤ man) (he : exp < -2000) : packF d man exp some = (0, false, 0) := by
  have hH := d.hH0
  have hl := d.hl
  have hI := d.I_lt
  obtain ⟨x, hx⟩ : ∃ x : Nat, max exp (-2500) = -(x : Int) := ⟨(-max exp (-2500)).toNat, by omega⟩
  have hp : packF d man exp some = packF d man (-(x : Int)) some := by
    unfold packF
    simp only
    rw [show min (max exp (-2500)) 2500 = -(x : Int) by omega, show min (max (-(x : Int)) (-2500)) 2500 = -(x : Int) by omega]
  rw [hp]
  obtain ⟨b, hb⟩ : ∃ b : Nat, x = b + d.l := ⟨x - d.l, by omega⟩
  have hp2 := p2 b
  have hD : (2 : Int) ^ (b + 1) = 2 * 2 ^ b := by rw [Int.pow_succ, Int.mul_comm]
  have hmul : ∀ c : Int, c * 2 ^ 0 * 2 ^ (b + 1) = 2 * (c * 2 ^ b) := fun c => by rw [hD, Int.pow_zero, Int.mul_one, Int.mul_left_comm]
  have hN : ∀ c s : Int, (2 * c + s) * 2 ^ b = 2 * (c * 2 ^ b) + s * 2 ^ b := fun c s => by rw [Int.add_mul, Int.mul_assoc]
  have h := pack_main d (man := man) (exp := -(x : Int)) (N := 2 * man + (if some = true then 1 else 0)) (D := 2 ^ (b + 1)) (some := some) (a := 0) (b := b) hm hs (p2 _) (by omega) (by omega)
    (by rw [hmul, hN]; split <;> omega) (by rw [hmul, hN, Int.add_mul man, Int.one_mul]; split <;> omega) (by rw [hmul, hN]; split <;> simp_all <;> omega)
  refine h.unique hH (p2 _) (RndR.oftiny hI.2.2 hI.1 hI.2.1 ?_ ?_)
  · split <;> omega
  · have := Ma.pow_mono (show (1 : Int) ≤ 2 by omega) (show 80 ≤ b + 1 by omega)
    rw [show (2 : Int) ^ 80 = 1208925819614629174706176 by rfl] at this
    split <;> omega
theorem join_rnd (d : Kd) {man exp : Int} (hm : 0 < man ∧ man < 18446744073709551616) {e : Int} (he : e = max (min exp 2000) (-2000)) :
    RndR d.H (d.I - 1) (man * 2 ^ e.toNat * 2 ^ d.l) (2 ^ (-e).toNat) (packF d man exp false) := by
  have hH := d.hH0
  have hl := d.hl
  have hI := d.I_lt
  have hmm : ∀ n : Nat, 2 ^ n ≤ man * 2 ^ n := fun n => by
    have := Int.mul_le_mul_of_nonneg_right (show 1 ≤ man by omega) (Int.le_of_lt (p2 n))
    omega
  rcases Int.lt_or_le 2000 exp with h | h
  · rw [pack_big d hm (fun h => by cases h) h]
    obtain rfl : e = 2000 := by omega
    refine RndR.ofhuge hH (p2 _) (by omega) ?_
    have h1 := d.fvI
    have h2 := hmm (2000 + d.l)
    have h3 := Ma.pow_mono (show (1 : Int) ≤ 2 by omega) (show 2099 ≤ 2000 + d.l by omega)
    rw [show ((-2000 : Int)).toNat = 0 by rfl, Int.pow_zero, Int.mul_one, Int.mul_assoc, ← Int.pow_add, show ((2000 : Int)).toNat = 2000 by rfl]
    omega
  · rcases Int.lt_or_le exp (-2000) with h' | h'
    · rw [pack_small d hm (fun h => by cases h) h']
      obtain rfl : e = -2000 := by omega
      rw [show ((-2000 : Int)).toNat = 0 by rfl, show (-(-2000 : Int)).toNat = 2000 by rfl, Int.pow_zero, Int.mul_one]
      refine RndR.oftiny hI.2.2 hI.1 hI.2.1 (Int.mul_pos hm.1 (p2 _)) ?_
      have e1 : man * 2 ^ d.l < 2 ^ 64 * 2 ^ d.l := Int.mul_lt_mul_of_pos_right (by rw [show (2 : Int) ^ 64 = 18446744073709551616 by rfl]; omega) (p2 _)
      rw [← Int.pow_add] at e1
      have e2 := Ma.pow_mono (show (1 : Int) ≤ 2 by omega) (show 64 + d.l + 1 ≤ 2000 by omega)
      rw [Int.pow_succ] at e2
      omega
    · obtain rfl : e = exp := by omega
      have hN : man * 2 ^ e.toNat * 2 ^ d.l * 2 ^ (-e).toNat = man * 2 ^ (e.toNat + d.l) * 2 ^ (-e).toNat := by rw [Int.pow_add, ← Int.mul_assoc]
      have hX : (0 : Int) < 2 ^ (e.toNat + d.l) * 2 ^ (-e).toNat := Int.mul_pos (p2 _) (p2 _)
      refine pack_main d (a := e.toNat + d.l) (b := (-e).toNat) hm (fun h => by cases h) (p2 _) (by omega) (by omega) ?_ ?_ ?_
      · rw [hN]; omega
      · rw [hN, Int.add_mul man, Int.add_mul, Int.one_mul]; omega
      · rw [hN]
        constructor
        · intro h; cases h
        · intro h; omega
/-- what 'ratio' finds of a fraction -/
theorem ratio_rnd (d : Kd) {num den man r e : Int} {some : Bool} (hn : 0 < num) (hd : 0 < den) (he : e = Ma.blen num - Ma.blen den) (hm : 2 ^ 62 ≤ man ∧ man < 18446744073709551616)
    (hv : num * 2 ^ (-e).toNat * 2 ^ 63 = man * (den * 2 ^ e.toNat) + r) (hr : 0 ≤ r ∧ r < den * 2 ^ e.toNat) (hs : some = true ↔ 0 < r) : RndR d.H (d.I - 1) (num * 2 ^ d.l) den (packF d man (e - 63) some) := by
  have hH := d.hH0
  have hl := d.hl
  have hI := d.I_lt
  have hm0 : 0 < man ∧ man < 18446744073709551616 := ⟨by have := p2 62; omega, hm.2⟩
  obtain ⟨i, hi, hi1, hi2⟩ := Ma.blen_spec hn
  obtain ⟨j, hj, hj1, hj2⟩ := Ma.blen_spec hd
  rcases Int.lt_or_le 2000 (e - 63) with h | h
  · rw [pack_big d hm0 (fun _ => hm.1) h]
    refine RndR.ofhuge hH hd (by omega) ?_
    have h1 : fv d.H (d.I - 1 + 1) * den ≤ 2 ^ 2099 * den := Int.mul_le_mul_of_nonneg_right d.fvI (by omega)
    have h2 : 2 ^ 2099 * den ≤ 2 ^ 2099 * 2 ^ (j + 1) := Int.mul_le_mul_of_nonneg_left (by omega) (Int.le_of_lt (p2 2099))
    have h3 : 2 ^ i * 2 ^ d.l ≤ num * 2 ^ d.l := Int.mul_le_mul_of_nonneg_right hi1 (Int.le_of_lt (p2 _))
    rw [← Int.pow_add] at h2 h3
    have h4 := Ma.pow_mono (show (1 : Int) ≤ 2 by omega) (show 2099 + (j + 1) ≤ i + d.l by omega)
    omega
  · rcases Int.lt_or_le (e - 63) (-2000) with h' | h'
    · rw [pack_small d hm0 (fun _ => hm.1) h']
      refine RndR.oftiny hI.2.2 hI.1 hI.2.1 (Int.mul_pos hn (p2 _)) ?_
      have h1 : num * 2 ^ d.l < 2 ^ (i + 1) * 2 ^ d.l := Int.mul_lt_mul_of_pos_right hi2 (p2 _)
      rw [← Int.pow_add] at h1
      have h2 := Ma.pow_mono (show (1 : Int) ≤ 2 by omega) (show i + 1 + d.l + 1 ≤ j by omega)
      rw [Int.pow_succ] at h2
      omega
    · have hA : ∀ c : Int, c * 2 ^ (e.toNat + d.l) * den = c * (den * 2 ^ e.toNat) * 2 ^ d.l := fun c => by
        rw [Int.pow_add, ← Int.mul_assoc, Int.mul_right_comm, Int.mul_assoc c, Int.mul_comm (2 ^ e.toNat)]
      have hB : num * 2 ^ d.l * 2 ^ ((-e).toNat + 63) = (man * (den * 2 ^ e.toNat) + r) * 2 ^ d.l := by
        rw [← hv, Int.pow_add, ← Int.mul_assoc, Int.mul_right_comm num, Int.mul_right_comm (num * 2 ^ (-e).toNat)]
      refine pack_main d (a := e.toNat + d.l) (b := (-e).toNat + 63) hm0 (fun _ => hm.1) hd (by omega) (by omega) ?_ ?_ ?_
      · rw [hA, hB]; exact Int.mul_le_mul_of_nonneg_right (by omega) (Int.le_of_lt (p2 _))
      · rw [hA, hB]; exact Int.mul_lt_mul_of_pos_right (by rw [Int.add_mul]; omega) (p2 _)
      · rw [hA, hB, hs]
        constructor
        · intro h; exact Int.mul_lt_mul_of_pos_right (by omega) (p2 _)
        · intro h; have := Int.lt_of_mul_lt_mul_right h (Int.le_of_lt (p2 _)); omega

end Go.Proofs.Ytmcbdgpcbcldjaa.W
