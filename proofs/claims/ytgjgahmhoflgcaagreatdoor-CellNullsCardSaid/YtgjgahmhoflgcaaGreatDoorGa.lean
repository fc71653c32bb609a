/- plain facts: bits of words, floats as bits, rounding -/
import Derived.Test.YtgjgahmhoflgcaaGreatDoorFf
set_option linter.unusedVariables false
set_option linter.unusedSimpArgs false
set_option maxRecDepth 10000
namespace Go.Proofs.YtgjgahmhoflgcaaGreatDoor.W
open Go.Vc Go.RowKit Tryz
/-! ### bits of a word at one place -/
theorem bw_nat {a b : Int} (ha : 0 ≤ a ∧ a ≤ 18446744073709551615) (hb : 0 ≤ b ∧ b ≤ 18446744073709551615) :
  bitw .and .u64 a b = ((a.toNat &&& b.toNat : Nat) : Int) ∧ bitw .or .u64 a b = ((a.toNat ||| b.toNat : Nat) : Int) ∧ bitw .xor .u64 a b = ((a.toNat ^^^ b.toNat : Nat) : Int) := by
 have ea : (BitVec.ofInt 64 a).toNat = a.toNat := by simp [BitVec.toNat_ofInt]; omega
 have eb : (BitVec.ofInt 64 b).toNat = b.toNat := by simp [BitVec.toNat_ofInt]; omega
 have la : a.toNat < 2 ^ 64 := by omega
 have lb : b.toNat < 2 ^ 64 := by omega
 refine ⟨?_, ?_, ?_⟩
 ·show IntKind.u64.wrap ((BitVec.ofInt 64 a &&& BitVec.ofInt 64 b).toNat : Int) = _
  rw [BitVec.toNat_and, ea, eb]
  have := Nat.and_lt_two_pow a.toNat lb
  exact Z1p ZO
 ·show IntKind.u64.wrap ((BitVec.ofInt 64 a ||| BitVec.ofInt 64 b).toNat : Int) = _
  rw [BitVec.toNat_or, ea, eb]
  have := Nat.or_lt_two_pow la lb
  exact Z1p ZO
 show IntKind.u64.wrap ((BitVec.ofInt 64 a ^^^ BitVec.ofInt 64 b).toNat : Int) = _
 rw [BitVec.toNat_xor, ea, eb]
 have := Nat.xor_lt_two_pow la lb
 exact Z1p ZO
theorem tb_eq {n q r : Nat} (hr : r < 2 ^ n) (j : Nat) : (2 ^ n * q + r).testBit j = if j < n then r.testBit j else q.testBit (j - n) := Nat.testBit_two_pow_mul_add q hr j
theorem nat_or {n q r q' r' : Nat} (hr : r < 2 ^ n) (hr' : r' < 2 ^ n) : (2 ^ n * q + r) ||| (2 ^ n * q' + r') = 2 ^ n * (q ||| q') + (r ||| r') := by
 refine Nat.eq_of_testBit_eq fun j => ?_
 rw [Nat.testBit_or, tb_eq hr, tb_eq hr', tb_eq (Nat.or_lt_two_pow hr hr')]
 split <;> rw [Nat.testBit_or]
theorem nat_xor {n q r q' r' : Nat} (hr : r < 2 ^ n) (hr' : r' < 2 ^ n) : (2 ^ n * q + r) ^^^ (2 ^ n * q' + r') = 2 ^ n * (q ^^^ q') + (r ^^^ r') := by
 refine Nat.eq_of_testBit_eq fun j => ?_
 rw [Nat.testBit_xor, tb_eq hr, tb_eq hr', tb_eq (Nat.xor_lt_two_pow hr hr')]
 split <;> rw [Nat.testBit_xor]
theorem Z7l (n : Nat) : ((2 ^ n : Nat) : Int) = (2 : Int) ^ n := by rw [Int.natCast_pow]; rfl
theorem two_parts {m : Int} {n : Nat} (hn : n < 64) (h : 0 ≤ m ∧ m < 2 ^ (n + 1)) : ∃ q r : Nat, q < 2 ∧ r < 2 ^ n ∧ m = ((2 ^ n * q + r : Nat) : Int) ∧ m % 2 ^ n = (r : Int) ∧ (2 ^ n ≤ m ↔ q = 1) ∧ 2 ^ n * q + r < 2 ^ 64 ∧ 2 ^ n < 2 ^ 64 := by
 have hp : 0 < 2 ^ n := Nat.two_pow_pos n
 have e := Nat.div_add_mod m.toNat (2 ^ n)
 have hr := Nat.mod_lt m.toNat hp
 have hm : m.toNat < 2 ^ n * 2 := by
  have : (m.toNat : Int) < ((2 ^ (n + 1) : Nat) : Int) := by rw [Z7l]; omega
  rw [Nat.pow_succ] at this; omega
 have hq : m.toNat / 2 ^ n < 2 := Nat.div_lt_of_lt_mul hm
 have hc := Z7l n
 have h64 : 2 ^ (n + 1) ≤ 2 ^ 64 := Nat.pow_le_pow_right ZO ZO
 rw [Nat.pow_succ] at h64
 refine ⟨m.toNat / 2 ^ n, m.toNat % 2 ^ n, hq, hr, ZO, ?_, ?_, ?_, ?_⟩
 ·rw [Int.natCast_emod, hc]; congr 1; omega
 ·rw [← hc]
  constructor
  ·intro h1
   have : 1 ≤ m.toNat / 2 ^ n := (Nat.le_div_iff_mul_le hp).2 ZO
   omega
  intro h1; rw [h1] at e; omega
 ·rw [e]; omega
 omega
theorem top_or {m : Int} {n : Nat} (hn : n < 64) (h : 0 ≤ m ∧ m < 2 ^ n) : bitw .or .u64 m (2 ^ n) = m + 2 ^ n := by
 obtain ⟨q, r, hq, hr, rfl, _, hi, hb, hb2⟩ := two_parts hn ⟨h.1, by rw [Int.pow_succ]; omega⟩
 have hq0 : q = 0 := by
  rcases (show q = 0 ∨ q = 1 by omega) with h | h
  ·exact h
  have := hi.2 h; omega
 subst hq0
 rw [← Z7l, (bw_nat ZO ZO).2.1, Int.toNat_natCast, Int.toNat_natCast]
 have : 2 ^ n * 0 + r ||| 2 ^ n = 2 ^ n * (0 ||| 1) + (r ||| 0) := by rw [← nat_or hr (Nat.two_pow_pos n)]; simp
 rw [this]
 simp
 omega
/-! ### floats as bits, and rounding -/
inductive Kd | f32 | f64
def Kd.M : Kd → Nat | .f32 => 24 | .f64 => 53
def Kd.l : Kd → Nat | .f32 => 149 | .f64 => 1074
def Kd.A : Kd → Nat | .f32 => 32 | .f64 => 64
def Kd.S : Kd → Int | .f32 => 2147483648 | .f64 => 9223372036854775808
def Kd.H : Kd → Int | .f32 => 8388608 | .f64 => 4503599627370496
def Kd.I : Kd → Int | .f32 => 2139095040 | .f64 => 9218868437227405312
theorem Kd.hM (d : Kd) : (2 : Int) ^ d.M = 2 * d.H := by cases d <;> rfl
theorem Kd.hH0 (d : Kd) : 0 < d.H := by cases d <;> decide
def fv (H b : Int) : Int := if b < H then b else (b % H + H) * 2 ^ (b / H - 1).toNat
theorem fv_of {H x : Int} (hH : 0 < H) (u : Nat) (h0 : 0 ≤ x) (h2 : x ≤ 2 * H) (hu : u = 0 ∨ H ≤ x) : fv H (x + u * H) = x * 2 ^ u := by
 unfold fv
 by_cases h : x < H
 ·obtain rfl : u = 0 := by omega
  rw [if_pos (by simpa using h)]
  simp
 have hu0 : 0 ≤ (u : Int) * H := Int.mul_nonneg ZO ZO
 rw [if_neg ZO]
 by_cases h3 : x = 2 * H
 ·have e : x + u * H = ((u : Int) + 2) * H := by rw [h3, Int.add_mul]; omega
  rw [e, Int.mul_emod_left, Int.mul_ediv_cancel _ ZO, show ((u : Int) + 2 - 1).toNat = u + 1 by omega, h3, Int.pow_succ]
  rw [Int.zero_add, ← Int.mul_assoc, Int.mul_comm _ (2 : Int), ← Int.mul_assoc]
 have e : x + u * H = (x - H) + ((u : Int) + 1) * H := by rw [Int.add_mul]; omega
 rw [e, Int.add_mul_emod_self_right, Int.add_mul_ediv_right _ _ ZO, Int.emod_eq_of_lt ZO ZO, Int.ediv_eq_zero_of_lt ZO ZO]
 rw [show (0 + ((u : Int) + 1) - 1).toNat = u by omega, show x - H + H = x by omega]
theorem fv_form {H b : Int} (hH : 0 < H) (hb : 0 ≤ b) : ∃ (x : Int) (u : Nat), b = x + u * H ∧ 0 ≤ x ∧ x < 2 * H ∧ (u = 0 ∨ H ≤ x) ∧ fv H b = x * 2 ^ u ∧ fv H (b + 1) = (x + 1) * 2 ^ u := by
 have key : ∀ (x : Int) (u : Nat), b = x + u * H → 0 ≤ x → x < 2 * H → (u = 0 ∨ H ≤ x) → ∃ (x : Int) (u : Nat), b = x + u * H ∧ 0 ≤ x ∧ x < 2 * H ∧ (u = 0 ∨ H ≤ x) ∧ fv H b = x * 2 ^ u ∧ fv H (b + 1) = (x + 1) * 2 ^ u := fun x u e h1 h2 h3 => by
  refine ⟨x, u, e, h1, h2, h3, ?_, ?_⟩
  ·rw [e]; exact fv_of hH u h1 ZO h3
  rw [show b + 1 = (x + 1) + u * H by omega]; exact fv_of hH u ZO ZO ZO
 by_cases h : b < H
 ·exact key b 0 (by simp) hb ZO (.inl rfl)
 have e := Int.emod_add_mul_ediv b H
 have h1 := Int.emod_nonneg b (show H ≠ 0 by omega)
 have h2 := Int.emod_lt_of_pos b hH
 have h3 : 1 ≤ b / H := (Int.le_ediv_iff_mul_le hH).2 ZO
 refine key (b % H + H) (b / H - 1).toNat ?_ ZO ZO (.inr ZO)
 rw [show (((b / H - 1).toNat : Nat) : Int) = b / H - 1 by omega, Int.sub_mul, Int.one_mul, Int.mul_comm (b / H)]
 omega
theorem fv_lt {H b : Int} (hH : 0 < H) (hb : 0 ≤ b) : fv H b < fv H (b + 1) := by
 obtain ⟨x, u, _, _, _, _, e1, e2⟩ := fv_form hH hb
 rw [e1, e2, Int.add_mul, Int.one_mul]
 have := Ma.pow_pos (show (0 : Int) < 2 by omega) u
 omega
theorem fv_add {H b : Int} (hH : 0 < H) (hb : 0 ≤ b) : ∀ n : Nat, fv H b + n ≤ fv H (b + n)
 | 0 => by simp
 | n + 1 => by
  have h1 := fv_add hH hb n
  have h2 := fv_lt hH (b := b + n) ZO
  rw [show b + ((n + 1 : Nat) : Int) = b + n + 1 by omega]
  omega
theorem Z6M {H a b : Int} (hH : 0 < H) (ha : 0 ≤ a) (h : a ≤ b) : fv H a ≤ fv H b := by
 have := fv_add hH ha (b - a).toNat
 rw [show a + ((b - a).toNat : Int) = b by omega] at this
 omega
theorem Z6N {H : Int} (hH : 0 < H) : fv H 0 = 0 := by unfold fv; rw [if_pos hH]
theorem fv_nonneg {H b : Int} (hH : 0 < H) (hb : 0 ≤ b) : 0 ≤ fv H b := by
 have := Z6M hH (Int.le_refl 0) hb
 rw [Z6N hH] at this
 exact this
def upR (H N D b : Int) : Prop := (fv H b + fv H (b + 1)) * D < 2 * N ∨ (fv H b + fv H (b + 1)) * D = 2 * N ∧ b % 2 = 1
instance (H N D b : Int) : Decidable (upR H N D b) := by unfold upR; infer_instance
def RndR (H G N D : Int) (r : Int × Bool × Int) : Prop :=
 ((fv H G + fv H (G + 1)) * D ≤ 2 * N ∧ r = (0, false, 34)) ∨
 ((¬ (fv H G + fv H (G + 1)) * D ≤ 2 * N) ∧ ∃ b0, 0 ≤ b0 ∧ b0 ≤ G ∧ fv H b0 * D ≤ N ∧ N < fv H (b0 + 1) * D ∧ r = (if upR H N D b0 then b0 + 1 else b0, decide (fv H b0 * D = N), 0))
theorem floor_unique {H N D a b : Int} (hH : 0 < H) (hD : 0 < D) (ha : 0 ≤ a) (hb : 0 ≤ b) (h1 : fv H a * D ≤ N) (h2 : N < fv H (a + 1) * D) (h3 : fv H b * D ≤ N) (h4 : N < fv H (b + 1) * D) : a = b := by
 rcases Int.lt_trichotomy a b with h | h | h
 ·have := Int.mul_le_mul_of_nonneg_right (Z6M hH (show 0 ≤ a + 1 by omega) (show a + 1 ≤ b by omega)) (Int.le_of_lt hD)
  omega
 ·exact h
 have := Int.mul_le_mul_of_nonneg_right (Z6M hH (show 0 ≤ b + 1 by omega) (show b + 1 ≤ a by omega)) (Int.le_of_lt hD)
 omega
theorem RndR.unique {H G N D : Int} {r s : Int × Bool × Int} (hH : 0 < H) (hD : 0 < D) (h : RndR H G N D r) (k : RndR H G N D s) : r = s := by
 rcases h with ⟨h, rfl⟩ | ⟨h, b0, h0, hG, h1, h2, rfl⟩ <;> rcases k with ⟨k, rfl⟩ | ⟨k, b1, k0, kG, k1, k2, rfl⟩
 ·rfl
 ·exact absurd h k
 ·exact absurd k h
 obtain rfl := floor_unique hH hD h0 k0 h1 h2 k1 k2
 rfl
theorem RndR.of {H G N D b0 : Int} (hH : 0 < H) (hD : 0 < D) (hG : 0 ≤ G) (hGo : G % 2 = 1) (h0 : 0 ≤ b0) (h1 : fv H b0 * D ≤ N) (h2 : N < fv H (b0 + 1) * D) :
  RndR H G N D (if (if upR H N D b0 then b0 + 1 else b0) ≤ G then (if upR H N D b0 then b0 + 1 else b0, decide (fv H b0 * D = N), 0) else (0, false, 34)) := by
 have hs : (fv H G + fv H (G + 1)) * D = fv H G * D + fv H (G + 1) * D := Int.add_mul ..
 have hl := Int.mul_lt_mul_of_pos_right (fv_lt hH hG) hD
 have hm : ∀ {a b : Int}, 0 ≤ a → a ≤ b → fv H a * D ≤ fv H b * D := fun ha h => Int.mul_le_mul_of_nonneg_right (Z6M hH ha h) (Int.le_of_lt hD)
 rcases Int.lt_trichotomy b0 G with h | h | h
 ·have := hm (a := b0 + 1) ZO (show b0 + 1 ≤ G by omega)
  rw [if_pos (by split <;> omega)]
  exact .inr ⟨ZO, b0, h0, ZO, h1, h2, rfl⟩
 ·subst h
  by_cases hu : upR H N D b0
  ·rw [if_pos hu, if_neg ZO]
   refine .inl ⟨?_, rfl⟩
   rcases hu with h | h <;> omega
  rw [if_neg hu, if_pos (Int.le_refl _)]
  refine .inr ⟨?_, b0, h0, Int.le_refl _, h1, h2, ?_⟩
  ·intro h
   apply hu
   rcases Int.lt_or_eq_of_le h with h | h
   ·exact .inl h
   exact .inr ⟨h, hGo⟩
  rw [if_neg hu]
 have := hm (a := G + 1) ZO (show G + 1 ≤ b0 by omega)
 rw [if_neg (by split <;> omega)]
 exact .inl ⟨ZO, rfl⟩
theorem RndR.huge {H G N D : Int} {r : Int × Bool × Int} (hH : 0 < H) (hD : 0 < D) (hG : 0 ≤ G) (h : RndR H G N D r) (hN : fv H (G + 1) * D ≤ N) : r = (0, false, 34) := by
 rcases h with ⟨_, h⟩ | ⟨h, _⟩
 ·exact h
 have hs : (fv H G + fv H (G + 1)) * D = fv H G * D + fv H (G + 1) * D := Int.add_mul ..
 have hl := Int.mul_lt_mul_of_pos_right (fv_lt hH hG) hD
 omega
theorem RndR.ofhuge {H G N D : Int} (hH : 0 < H) (hD : 0 < D) (hG : 0 ≤ G) (hN : fv H (G + 1) * D ≤ N) : RndR H G N D (0, false, 34) := by
 have hs : (fv H G + fv H (G + 1)) * D = fv H G * D + fv H (G + 1) * D := Int.add_mul ..
 have hl := Int.mul_lt_mul_of_pos_right (fv_lt hH hG) hD
 exact .inl ⟨ZO, rfl⟩
theorem RndR.oftiny {H G N D : Int} (hH : 1 < H) (hG : 0 < G) (hGo : G % 2 = 1) (h0 : 0 < N) (h2 : 2 * N < D) : RndR H G N D (0, false, 0) := by
 have e0 := Z6N (H := H) ZO
 have e1 : fv H (0 + 1) = 1 := by unfold fv; rw [if_pos ZO]; rfl
 have hu : ¬ upR H N D 0 := by unfold upR; rw [e0, e1]; omega
 have := RndR.of (H := H) (G := G) (N := N) (D := D) (b0 := 0) ZO ZO ZO hGo ZO (by rw [e0]; omega) (by rw [e1]; omega)
 rw [if_neg hu, if_pos ZO, e0, decide_eq_false ZO] at this
 exact this
/-! ### pack -/
def sw (man down : Int) (some : Bool) : Int × Int × Bool :=
 if down < 0 then (man * 2 ^ (-down).toNat % 18446744073709551616, 0, some) else if 64 < down then (0, 0, true) else if 0 < down then (man / 2 ^ down.toNat, man * 2 ^ (64 - down.toNat) % 18446744073709551616, some) else (man, 0, some)
def Z6O (d : Kd) (x rest : Int) (some : Bool) (u : Int) : Int × Bool × Int :=
 let x1 := if 9223372036854775808 < rest ∨ rest = 9223372036854775808 ∧ (some = true ∨ x % 2 = 1) then x + 1 else x
 let p := if x1 / 2 ^ d.M = 1 then (x1 / 2, u + 1) else (x1, u)
 let x3 := if p.1 / d.H = 1 then p.1 + p.2 * d.H else p.1
 if d.I ≤ x3 then (0, false, 34) else (x3, decide (rest = 0 ∧ some = false), 0)
def Z5h (d : Kd) (man exp : Int) (some : Bool) : Int × Bool × Int :=
 let e := min (max exp (-2500)) 2500
 let unit := max (e + Ma.blen man - d.M) (-(d.l : Int))
 let s := sw man (unit - e) some
 Z6O d s.1 s.2.1 s.2.2 (unit + d.l)
theorem div_one {x y : Int} (hy : 0 < y) : x / y = 1 ↔ y ≤ x ∧ x < 2 * y := by
 constructor
 ·intro h
  have e := Int.emod_add_mul_ediv x y
  have h1 := Int.emod_nonneg x (show y ≠ 0 by omega)
  have h2 := Int.emod_lt_of_pos x hy
  rw [h] at e
  omega
 rintro ⟨h1, h2⟩
 have h3 : 1 ≤ x / y := (Int.le_ediv_iff_mul_le hy).2 ZO
 have h4 : x / y < 2 := Int.ediv_lt_of_lt_mul hy ZO
 omega
theorem Kd.I_lt (d : Kd) : 0 < d.I - 1 ∧ (d.I - 1) % 2 = 1 ∧ 1 < d.H := by cases d <;> decide
theorem tail_val (d : Kd) {x rest : Int} {some : Bool} {u : Nat} (h0 : 0 ≤ x) (h1 : x < 2 * d.H) (hu : u = 0 ∨ d.H ≤ x) {b1 : Int}
  (hb : b1 = if 9223372036854775808 < rest ∨ rest = 9223372036854775808 ∧ (some = true ∨ x % 2 = 1) then x + u * d.H + 1 else x + u * d.H) :
  Z6O d x rest some u = if d.I ≤ b1 then (0, false, 34) else (b1, decide (rest = 0 ∧ some = false), 0) := by
 have hH := d.hH0
 have key : ∀ x1 : Int, 0 ≤ x1 → x1 ≤ 2 * d.H → (u = 0 ∨ d.H ≤ x1) →
   (let p := if x1 / 2 ^ d.M = 1 then (x1 / 2, (u : Int) + 1) else (x1, (u : Int)); if p.1 / d.H = 1 then p.1 + p.2 * d.H else p.1) = x1 + u * d.H := fun x1 hx0 hx1 hxu => by
  rw [d.hM]
  by_cases hc : x1 / (2 * d.H) = 1
  ·have hx := ((div_one ZO).1 hc).1
   have hx2 : x1 = 2 * d.H := by omega
   simp only [if_pos hc]
   rw [if_pos ((div_one hH).2 ZO), Int.add_mul]
   omega
  have hx : x1 < 2 * d.H := by
   rcases Int.lt_or_le x1 (2 * d.H) with h | h
   ·exact h
   exact absurd ((div_one ZO).2 ⟨h, ZO⟩) hc
  simp only [if_neg hc]
  by_cases hl : d.H ≤ x1
  ·rw [if_pos ((div_one hH).2 ZO)]
  rw [if_neg (fun h => hl ((div_one hH).1 h).1)]
  obtain rfl : u = 0 := by omega
  simp
 unfold Z6O
 by_cases hc : 9223372036854775808 < rest ∨ rest = 9223372036854775808 ∧ (some = true ∨ x % 2 = 1)
 ·rw [if_pos hc] at hb
  have := key (x + 1) ZO ZO ZO
  simp only [if_pos hc]
  simp only at this
  rw [this, hb, show x + 1 + (u : Int) * d.H = x + u * d.H + 1 by omega]
 rw [if_neg hc] at hb
 have := key x ZO ZO ZO
 simp only [if_neg hc]
 simp only at this
 rw [this, hb]
theorem Z6v (d : Kd) {N D x rest : Int} {some : Bool} {u : Nat} (hD : 0 < D) (h0 : 0 ≤ x) (h1 : x < 2 * d.H) (hu : u = 0 ∨ d.H ≤ x) (hf1 : x * (2 ^ u * D) ≤ N) (hf2 : N < (x + 1) * (2 ^ u * D))
  (hup : (9223372036854775808 < rest ∨ rest = 9223372036854775808 ∧ (some = true ∨ x % 2 = 1)) ↔ ((2 * x + 1) * (2 ^ u * D) < 2 * N ∨ (2 * x + 1) * (2 ^ u * D) = 2 * N ∧ x % 2 = 1))
  (hex : (rest = 0 ∧ some = false) ↔ x * (2 ^ u * D) = N) : RndR d.H (d.I - 1) N D (Z6O d x rest some u) := by
 have hH := d.hH0
 have hG := d.I_lt
 have hb0 : 0 ≤ x + u * d.H := by have := Int.mul_nonneg (show (0 : Int) ≤ u by omega) (Int.le_of_lt hH); omega
 have e1 : fv d.H (x + u * d.H) = x * 2 ^ u := fv_of hH u h0 ZO hu
 have e2 : fv d.H (x + u * d.H + 1) = (x + 1) * 2 ^ u := by
  rw [show x + u * d.H + 1 = (x + 1) + u * d.H by omega]; exact fv_of hH u ZO ZO ZO
 have hev : (x + u * d.H) % 2 = x % 2 := by
  have : ∃ q : Int, d.H = 2 * q := by
   cases d
   ·exact ⟨4194304, rfl⟩
   exact ⟨2251799813685248, rfl⟩
  obtain ⟨q, hq⟩ := this
  rw [hq, ← Int.mul_assoc, Int.mul_comm (u : Int) 2, Int.mul_assoc]
  omega
 have hupR : upR d.H N D (x + u * d.H) ↔ (9223372036854775808 < rest ∨ rest = 9223372036854775808 ∧ (some = true ∨ x % 2 = 1)) := by
  rw [hup]
  unfold upR
  rw [e1, e2, hev, ← Int.add_mul, show x + (x + 1) = 2 * x + 1 by omega, Int.mul_assoc]
 have h := RndR.of (H := d.H) (G := d.I - 1) (N := N) (D := D) hH hD ZO hG.2.1 hb0 (by rw [e1, Int.mul_assoc]; exact hf1) (by rw [e2, Int.mul_assoc]; exact hf2)
 have hd : decide (fv d.H (x + ↑u * d.H) * D = N) = decide (rest = 0 ∧ some = false) := by
  rw [e1, Int.mul_assoc]; exact decide_eq_decide.2 hex.symm
 rw [hd] at h
 by_cases hC : 9223372036854775808 < rest ∨ rest = 9223372036854775808 ∧ (some = true ∨ x % 2 = 1)
 ·rw [tail_val d h0 h1 hu (b1 := x + u * d.H + 1) (by rw [if_pos hC])]
  rw [if_pos (hupR.2 hC)] at h
  split at h <;> rename_i hc
  ·rw [if_neg ZO]; exact h
  rw [if_pos ZO]; exact h
 rw [tail_val d h0 h1 hu (b1 := x + u * d.H) (by rw [if_neg hC])]
 rw [if_neg (fun k => hC (hupR.1 k))] at h
 split at h <;> rename_i hc
 ·rw [if_neg ZO]; exact h
 rw [if_pos ZO]; exact h
theorem half_cmp {M X r h : Int} {some : Bool} (hX : 0 < X) (hh : 0 < h) (h1 : r * X ≤ M * (2 * h)) (h2 : M * (2 * h) < (r + 1) * X) (h3 : some = true ↔ r * X < M * (2 * h)) :
  (h < r → X < 2 * M) ∧ (r = h → some = true → X < 2 * M) ∧ (r = h → some = false → X = 2 * M) ∧ (r < h → 2 * M < X) := by
 have e : M * (2 * h) = (2 * M) * h := by rw [← Int.mul_assoc, Int.mul_comm M 2]
 rw [e] at h1 h2 h3
 refine ⟨fun hr => ?_, fun hr hs => ?_, fun hr hs => ?_, fun hr => ?_⟩
 ·have : (h + 1) * X ≤ r * X := Int.mul_le_mul_of_nonneg_right ZO ZO
  rw [Int.add_mul] at this
  refine Int.lt_of_mul_lt_mul_right (a := h) ?_ ZO
  rw [Int.mul_comm X]; omega
 ·have := h3.1 hs
  subst hr
  refine Int.lt_of_mul_lt_mul_right (a := r) ?_ ZO
  rw [Int.mul_comm X]; omega
 ·have : ¬ r * X < 2 * M * h := fun k => by rw [h3.2 k] at hs; cases hs
  subst hr
  refine Int.eq_of_mul_eq_mul_right (a := r) ZO ?_
  rw [Int.mul_comm X]; omega
 have : (r + 1) * X ≤ h * X := Int.mul_le_mul_of_nonneg_right ZO ZO
 refine Int.lt_of_mul_lt_mul_right (a := h) ?_ ZO
 rw [Int.mul_comm X]; omega
theorem scaleP {c D : Int} {a b u k : Nat} (h : a + k = u + b) : c * 2 ^ a * D * 2 ^ k = c * (2 ^ u * D) * 2 ^ b := by
 have e : (2 : Int) ^ a * 2 ^ k = 2 ^ u * 2 ^ b := by rw [← Int.pow_add, ← Int.pow_add, h]
 rw [Int.mul_right_comm (c * 2 ^ a), Int.mul_assoc c, e, Int.mul_assoc c, Int.mul_assoc c, Int.mul_right_comm (2 ^ u)]
theorem p2 (n : Nat) : (0 : Int) < 2 ^ n := Ma.pow_pos (by omega) n
theorem Z6d (d : Kd) {man exp N D : Int} {some : Bool} {a b : Nat} (hm : 0 < man ∧ man < 18446744073709551616) (hs : some = true → 2 ^ 62 ≤ man) (hD : 0 < D) (hr : -2500 ≤ exp ∧ exp ≤ 2500) (he : exp = a - b - d.l)
  (h1 : man * 2 ^ a * D ≤ N * 2 ^ b) (h2 : N * 2 ^ b < (man + 1) * 2 ^ a * D) (h3 : some = true ↔ man * 2 ^ a * D < N * 2 ^ b) : RndR d.H (d.I - 1) N D (Z5h d man exp some) := by
 have hH := d.hH0
 have hMM : 1 ≤ d.M ∧ d.M ≤ 53 := by cases d <;> decide
 have hM1 : (2 : Int) ^ (d.M - 1) = d.H := by cases d <;> rfl
 obtain ⟨k, hk, hk1, hk2⟩ := Ma.blen_spec hm.1
 have hk63 : k ≤ 63 := by
  have : Ma.blen man ≤ (64 : Nat) := (Ma.blen_le_iff ZO 64).2 (by rw [show (2 : Int) ^ 64 = 18446744073709551616 by rfl]; omega)
  omega
 obtain ⟨unit, hun⟩ : ∃ unit, unit = max (exp + Ma.blen man - d.M) (-(d.l : Int)) := ⟨_, rfl⟩
 obtain ⟨u, hu⟩ : ∃ u : Nat, unit + d.l = u := ⟨(unit + d.l).toNat, ZO⟩
 have hp : Z5h d man exp some = Z6O d (sw man (unit - exp) some).1 (sw man (unit - exp) some).2.1 (sw man (unit - exp) some).2.2 u := by
  unfold Z5h
  simp only
  rw [show min (max exp (-2500)) 2500 = exp by omega, ← hun, hu]
 rw [hp]
 have hX : 0 < 2 ^ u * D := Int.mul_pos (p2 u) hD
 have hs62 : some = true → 62 ≤ k := fun h => by
  have := hs h
  rcases Nat.lt_or_ge k 62 with h | h
  ·have := Ma.pow_mono (show (1 : Int) ≤ 2 by omega) (show k + 1 ≤ 62 by omega)
   omega
  exact h
 unfold sw
 by_cases c1 : unit - exp < 0
 ·rw [if_pos c1]
  obtain ⟨t, ht⟩ : ∃ t : Nat, -(unit - exp) = t := ⟨(-(unit - exp)).toNat, ZO⟩
  rw [ht, Int.toNat_natCast]
  have hkt : k + 1 + t ≤ d.M := by omega
  have hsf : some = false := by
   rcases Bool.eq_false_or_eq_true some with h | h
   ·have := hs62 h; omega
   exact h
  have hlt : man * 2 ^ t < 2 * d.H := by
   have e1 : man * 2 ^ t < 2 ^ (k + 1) * 2 ^ t := Int.mul_lt_mul_of_pos_right hk2 (p2 t)
   have e2 := Ma.pow_mono (show (1 : Int) ≤ 2 by omega) hkt
   rw [Int.pow_add, d.hM] at e2
   omega
  have hge : 0 ≤ man * 2 ^ t := Int.mul_nonneg ZO (Int.le_of_lt (p2 t))
  have hH53 : 2 * d.H ≤ 18446744073709551616 := by cases d <;> decide
  have hau : a + 0 = (t + u) + b := by omega
  have heq : N = man * 2 ^ t * (2 ^ u * D) := by
   have hne : ¬ man * 2 ^ a * D < N * 2 ^ b := fun h => by rw [h3.2 h] at hsf; cases hsf
   have e := scaleP (c := man) (D := D) hau
   rw [Int.pow_zero, Int.mul_one] at e
   refine Int.eq_of_mul_eq_mul_right (a := 2 ^ b) (by have := p2 b; omega) ?_
   have : N * 2 ^ b = man * 2 ^ a * D := by omega
   rw [this, e, Int.pow_add, Int.mul_assoc (2 ^ t), ← Int.mul_assoc man]
  rw [Int.emod_eq_of_lt hge ZO]
  show RndR _ _ _ _ (Z6O d (man * 2 ^ t) 0 some u)
  refine Z6v d hD hge hlt ?_ ZO (by rw [heq, Int.add_mul (man * 2 ^ t), Int.one_mul]; omega) ?_ ?_
  ·rcases Nat.eq_zero_or_pos u with h | h
   ·exact .inl h
   refine .inr ?_
   have e1 : 2 ^ k * 2 ^ t ≤ man * 2 ^ t := Int.mul_le_mul_of_nonneg_right hk1 (Int.le_of_lt (p2 t))
   rw [← Int.pow_add, show k + t = d.M - 1 by omega, hM1] at e1
   exact e1
  ·have : (2 * (man * 2 ^ t) + 1) * (2 ^ u * D) = 2 * N + 2 ^ u * D := by rw [heq, Int.add_mul, Int.one_mul, Int.mul_assoc]
   rw [this]
   constructor
   ·intro h; omega
   intro h; omega
  simp [hsf, heq]
 rw [if_neg c1]
 obtain ⟨t, ht⟩ : ∃ t : Nat, unit - exp = t := ⟨(unit - exp).toNat, ZO⟩
 have hau : a + t = u + b := by omega
 have g1 : man * (2 ^ u * D) ≤ N * 2 ^ t := by
  have := Int.mul_le_mul_of_nonneg_right h1 (Int.le_of_lt (p2 t))
  rw [scaleP hau, Int.mul_right_comm N] at this
  exact Int.le_of_mul_le_mul_right this (p2 b)
 have g2 : N * 2 ^ t < (man + 1) * (2 ^ u * D) := by
  have := Int.mul_lt_mul_of_pos_right h2 (p2 t)
  rw [scaleP hau, Int.mul_right_comm N] at this
  exact Int.lt_of_mul_lt_mul_right this (Int.le_of_lt (p2 b))
 have g3 : some = true ↔ man * (2 ^ u * D) < N * 2 ^ t := by
  rw [h3]
  constructor
  ·intro h
   have := Int.mul_lt_mul_of_pos_right h (p2 t)
   rw [scaleP hau, Int.mul_right_comm N] at this
   exact Int.lt_of_mul_lt_mul_right this (Int.le_of_lt (p2 b))
  intro h
  have := Int.mul_lt_mul_of_pos_right h (p2 b)
  rw [← scaleP hau, Int.mul_right_comm N] at this
  exact Int.lt_of_mul_lt_mul_right this (Int.le_of_lt (p2 t))
 by_cases c2 : 64 < unit - exp
 ·rw [if_pos c2]
  show RndR _ _ _ _ (Z6O d 0 0 true u)
  have hu0 : u = 0 := by omega
  have hN0 : 0 < N := by
   refine Int.lt_of_mul_lt_mul_right (a := 2 ^ t) ?_ (Int.le_of_lt (p2 t))
   have := Int.mul_pos hm.1 hX
   omega
  have hN2 : 2 * N < 2 ^ u * D := by
   have e1 : (man + 1) * (2 ^ u * D) ≤ 18446744073709551616 * (2 ^ u * D) := Int.mul_le_mul_of_nonneg_right ZO ZO
   have e2 := Ma.pow_mono (show (1 : Int) ≤ 2 by omega) (show 65 ≤ t by omega)
   have e3 := Int.mul_le_mul_of_nonneg_left e2 (Int.le_of_lt hN0)
   rw [show (2 : Int) ^ 65 = 36893488147419103232 by rfl] at e3
   omega
  refine Z6v d hD ZO ZO (.inl hu0) ZO ZO ?_ ?_
  ·constructor
   ·intro h; simp at h
   intro h; omega
  constructor
  ·intro h; cases h.2
  intro h; omega
 rw [if_neg c2]
 by_cases c3 : 0 < unit - exp
 ·rw [if_pos c3, ht, Int.toNat_natCast]
  obtain ⟨t', rfl⟩ : ∃ t', t = t' + 1 := ⟨t - 1, ZO⟩
  have e := Int.emod_add_mul_ediv man (2 ^ (t' + 1))
  have r0 := Int.emod_nonneg man (show (2 : Int) ^ (t' + 1) ≠ 0 by have := p2 (t' + 1); omega)
  have r1 := Int.emod_lt_of_pos man (p2 (t' + 1))
  have hrest : man * 2 ^ (64 - (t' + 1)) % 18446744073709551616 = man % 2 ^ (t' + 1) * 2 ^ (64 - (t' + 1)) := by
   have := shl_low (x := man) (k := 64 - (t' + 1)) ZO
   rwa [show 64 - (64 - (t' + 1)) = t' + 1 by omega] at this
  have hq0 : 0 ≤ man / 2 ^ (t' + 1) := Int.ediv_nonneg ZO (Int.le_of_lt (p2 _))
  have hq1 : man / 2 ^ (t' + 1) < 2 * d.H := by
   refine Int.ediv_lt_of_lt_mul (p2 _) ?_
   rw [← d.hM, ← Int.pow_add]
   exact Int.lt_of_lt_of_le hk2 (Ma.pow_mono ZO ZO)
  have hqu : u = 0 ∨ d.H ≤ man / 2 ^ (t' + 1) := by
   rcases Nat.eq_zero_or_pos u with h | h
   ·exact .inl h
   refine .inr ((Int.le_ediv_iff_mul_le (p2 _)).2 ?_)
   rw [← hM1, ← Int.pow_add]
   exact Int.le_trans (Ma.pow_mono ZO ZO) hk1
  rw [hrest]
  show RndR _ _ _ _ (Z6O d (man / 2 ^ (t' + 1)) (man % 2 ^ (t' + 1) * 2 ^ (64 - (t' + 1))) some u)
  generalize man / 2 ^ (t' + 1) = q at *
  generalize man % 2 ^ (t' + 1) = r at *
  obtain ⟨X, hXe⟩ : ∃ X, X = 2 ^ u * D := ⟨_, rfl⟩
  rw [← hXe] at g1 g2 g3 hX
  obtain ⟨h, hh⟩ : ∃ h : Int, h = 2 ^ t' := ⟨_, rfl⟩
  have hh0 : 0 < h := hh ▸ p2 t'
  have h2h : (2 : Int) ^ (t' + 1) = 2 * h := by rw [Int.pow_succ, hh, Int.mul_comm]
  rw [h2h] at e r1 g1 g2 g3
  obtain ⟨Mn, hMn⟩ : ∃ Mn, Mn = N - q * X := ⟨_, rfl⟩
  have eman : man * X = r * X + q * X * (2 * h) := by rw [← e, Int.add_mul, Int.mul_comm (2 * h) q, Int.mul_right_comm q]
  have eN : N * (2 * h) = Mn * (2 * h) + q * X * (2 * h) := by rw [← Int.add_mul]; congr 1; omega
  have k1 : r * X ≤ Mn * (2 * h) := by omega
  have k2 : Mn * (2 * h) < (r + 1) * X := by rw [Int.add_mul] at g2 ⊢; omega
  have k3 : some = true ↔ r * X < Mn * (2 * h) := by rw [g3]; omega
  obtain ⟨p1, p2', p3, p4⟩ := half_cmp hX hh0 k1 k2 k3
  have hrX : 0 ≤ r * X := Int.mul_nonneg r0 (Int.le_of_lt hX)
  have hM0 : 0 ≤ Mn := by
   rcases Int.lt_or_le Mn 0 with h' | h'
   ·have := Int.mul_neg_of_neg_of_pos h' (show 0 < 2 * h by omega); omega
   exact h'
  have hM1' : Mn < X := by
   refine Int.lt_of_mul_lt_mul_right (a := 2 * h) ?_ ZO
   have : (r + 1) * X ≤ 2 * h * X := Int.mul_le_mul_of_nonneg_right ZO ZO
   rw [Int.mul_comm X]; omega
  obtain ⟨z, hz⟩ : ∃ z : Int, z = 2 ^ (64 - (t' + 1)) := ⟨_, rfl⟩
  have hz0 : 0 < z := hz ▸ p2 _
  have hzh : (9223372036854775808 : Int) = h * z := by rw [hh, hz, ← Int.pow_add, show t' + (64 - (t' + 1)) = 63 by omega]; rfl
  have hgt : 9223372036854775808 < r * z ↔ h < r := by rw [hzh]; exact Int.mul_lt_mul_right hz0
  have heq' : r * z = 9223372036854775808 ↔ r = h := by
   rw [hzh]; exact ⟨fun k => Int.eq_of_mul_eq_mul_right ZO k, fun k => by rw [k]⟩
  have hr00 : r * z = 0 ↔ r = 0 := by
   constructor
   ·intro k
    rcases Int.mul_eq_zero.1 k with k | k
    ·exact k
    omega
   intro k; rw [k, Int.zero_mul]
  rw [← hz]
  have e2q : (2 * q + 1) * X = 2 * (q * X) + X := by rw [Int.add_mul, Int.one_mul, Int.mul_assoc]
  refine Z6v d hD hq0 hq1 hqu (by rw [← hXe]; omega) (by rw [← hXe, Int.add_mul]; omega) ?_ ?_
  ·rw [← hXe, hgt, heq', e2q]
   constructor
   ·rintro (k | ⟨k, k' | k'⟩)
    ·have := p1 k; left; omega
    ·have := p2' k k'; left; omega
    rcases Bool.eq_false_or_eq_true some with ks | ks
    ·have := p2' k ks; left; omega
    have := p3 k ks; right; exact ⟨ZO, k'⟩
   intro k
   rcases Int.lt_trichotomy r h with kr | kr | kr
   ·have := p4 kr; omega
   ·right
    refine ⟨kr, ?_⟩
    rcases Bool.eq_false_or_eq_true some with ks | ks
    ·exact .inl ks
    have := p3 kr ks
    rcases k with k | k
    ·omega
    exact .inr k.2
   exact .inl kr
  rw [← hXe, hr00]
  constructor
  ·rintro ⟨rfl, ks⟩
   have : ¬ 0 * X < Mn * (2 * h) := fun k => by rw [k3.2 k] at ks; cases ks
   rw [Int.zero_mul] at this
   rcases Int.lt_or_le 0 Mn with h' | h'
   ·have := Int.mul_pos h' (show 0 < 2 * h by omega); omega
   omega
  intro k
  have hM00 : Mn = 0 := by omega
  rw [hM00, Int.zero_mul] at k1 k3
  have hr0' : r = 0 := by
   rcases Int.lt_or_le 0 r with h' | h'
   ·have := Int.mul_pos h' hX; omega
   omega
  refine ⟨hr0', ?_⟩
  rcases Bool.eq_false_or_eq_true some with ks | ks
  ·have := k3.1 ks; omega
  exact ks
 rw [if_neg c3]
 show RndR _ _ _ _ (Z6O d man 0 some u)
 obtain rfl : t = 0 := by omega
 have hsf : some = false := by
  rcases Bool.eq_false_or_eq_true some with h | h
  ·have := hs62 h; omega
  exact h
 rw [Int.pow_zero, Int.mul_one] at g1 g3
 have heq : N = man * (2 ^ u * D) := by
  have hne : ¬ man * (2 ^ u * D) < N := fun h => by rw [g3.2 h] at hsf; cases hsf
  omega
 have hq1 : man < 2 * d.H := by
  rw [← d.hM]
  exact Int.lt_of_lt_of_le hk2 (Ma.pow_mono ZO ZO)
 refine Z6v d hD ZO hq1 ?_ ZO (by rw [heq, Int.add_mul man, Int.one_mul]; omega) ?_ ?_
 ·rcases Nat.eq_zero_or_pos u with h | h
  ·exact .inl h
  refine .inr ?_
  rw [← hM1]
  exact Int.le_trans (Ma.pow_mono ZO ZO) hk1
 ·have : (2 * man + 1) * (2 ^ u * D) = 2 * N + 2 ^ u * D := by rw [heq, Int.add_mul, Int.one_mul, Int.mul_assoc]
  rw [this]
  constructor
  ·intro h; omega
  intro h; omega
 simp [hsf, heq]
theorem Kd.fvI (d : Kd) : fv d.H (d.I - 1 + 1) ≤ 2 ^ 2099 := by
 have hM1 : (2 : Int) ^ (d.M - 1) = d.H := by cases d <;> rfl
 obtain ⟨X, hX, hl⟩ : ∃ X : Nat, d.I - 1 + 1 = d.H + X * d.H ∧ d.M - 1 + X ≤ 2099 := by
  cases d
  ·exact ⟨254, by decide, by decide⟩
  exact ⟨2046, by decide, by decide⟩
 have hH := d.hH0
 rw [hX, fv_of hH X ZO ZO (.inr ZO), ← hM1, ← Int.pow_add]
 exact Ma.pow_mono ZO hl
theorem Kd.hl (d : Kd) : 100 ≤ d.l ∧ d.l ≤ 1074 := by cases d <;> decide
theorem pack_big (d : Kd) {man exp : Int} {some : Bool} (hm : 0 < man ∧ man < 18446744073709551616) (hs : some = true → 2 ^ 62 ≤ man) (he : 2000 < exp) : Z5h d man exp some = (0, false, 34) := by
 have hH := d.hH0
 have hl := d.hl
 obtain ⟨x, hx⟩ : ∃ x : Nat, min exp 2500 = (x : Int) := ⟨(min exp 2500).toNat, ZO⟩
 have hp : Z5h d man exp some = Z5h d man (x : Int) some := by
  unfold Z5h
  simp only
  rw [show min (max exp (-2500)) 2500 = (x : Int) by omega, show min (max (x : Int) (-2500)) 2500 = (x : Int) by omega]
 rw [hp]
 have hp2 := p2 (x + d.l)
 have hmul : ∀ c : Int, c * 2 ^ (x + d.l) * 2 = 2 * (c * 2 ^ (x + d.l)) := fun c => Int.mul_comm _ _
 have h := Z6d d (man := man) (exp := x) (N := 2 * (man * 2 ^ (x + d.l)) + (if some = true then 1 else 0)) (D := 2) (some := some) (a := x + d.l) (b := 0) hm hs ZO ZO ZO
  (by rw [hmul]; split <;> omega) (by rw [hmul, Int.add_mul man, Int.one_mul]; split <;> omega) (by rw [hmul]; split <;> simp_all <;> omega)
 refine h.huge hH ZO (by have := d.I_lt; omega) ?_
 have h1 := d.fvI
 have h2 := Ma.pow_mono (show (1 : Int) ≤ 2 by omega) (show 2099 ≤ x + d.l by omega)
 have h3 : 1 * 2 ^ (x + d.l) ≤ man * 2 ^ (x + d.l) := Int.mul_le_mul_of_nonneg_right ZO ZO
 split <;> omega
theorem pack_small (d : Kd) {man exp : Int} {some : Bool} (hm : 0 < man ∧ man < 18446744073709551616) (hs : some = true → 2 ^ 62 ≤ man) (he : exp < -2000) : Z5h d man exp some = (0, false, 0) := by
 have hH := d.hH0
 have hl := d.hl
 have hI := d.I_lt
 obtain ⟨x, hx⟩ : ∃ x : Nat, max exp (-2500) = -(x : Int) := ⟨(-max exp (-2500)).toNat, ZO⟩
 have hp : Z5h d man exp some = Z5h d man (-(x : Int)) some := by
  unfold Z5h
  simp only
  rw [show min (max exp (-2500)) 2500 = -(x : Int) by omega, show min (max (-(x : Int)) (-2500)) 2500 = -(x : Int) by omega]
 rw [hp]
 obtain ⟨b, hb⟩ : ∃ b : Nat, x = b + d.l := ⟨x - d.l, ZO⟩
 have hp2 := p2 b
 have hD : (2 : Int) ^ (b + 1) = 2 * 2 ^ b := by rw [Int.pow_succ, Int.mul_comm]
 have hmul : ∀ c : Int, c * 2 ^ 0 * 2 ^ (b + 1) = 2 * (c * 2 ^ b) := fun c => by rw [hD, Int.pow_zero, Int.mul_one, Int.mul_left_comm]
 have hN : ∀ c s : Int, (2 * c + s) * 2 ^ b = 2 * (c * 2 ^ b) + s * 2 ^ b := fun c s => by rw [Int.add_mul, Int.mul_assoc]
 have h := Z6d d (man := man) (exp := -(x : Int)) (N := 2 * man + (if some = true then 1 else 0)) (D := 2 ^ (b + 1)) (some := some) (a := 0) (b := b) hm hs (p2 _) ZO ZO
  (by rw [hmul, hN]; split <;> omega) (by rw [hmul, hN, Int.add_mul man, Int.one_mul]; split <;> omega) (by rw [hmul, hN]; split <;> simp_all <;> omega)
 refine h.unique hH (p2 _) (RndR.oftiny hI.2.2 hI.1 hI.2.1 ?_ ?_)
 ·split <;> omega
 have := Ma.pow_mono (show (1 : Int) ≤ 2 by omega) (show 80 ≤ b + 1 by omega)
 rw [show (2 : Int) ^ 80 = 1208925819614629174706176 by rfl] at this
 split <;> omega
theorem join_rnd (d : Kd) {man exp : Int} (hm : 0 < man ∧ man < 18446744073709551616) {e : Int} (he : e = max (min exp 2000) (-2000)) :
  RndR d.H (d.I - 1) (man * 2 ^ e.toNat * 2 ^ d.l) (2 ^ (-e).toNat) (Z5h d man exp false) := by
 have hH := d.hH0
 have hl := d.hl
 have hI := d.I_lt
 have hmm : ∀ n : Nat, 2 ^ n ≤ man * 2 ^ n := fun n => by
  have := Int.mul_le_mul_of_nonneg_right (show 1 ≤ man by omega) (Int.le_of_lt (p2 n))
  omega
 rcases Int.lt_or_le 2000 exp with h | h
 ·rw [pack_big d hm (fun h => by cases h) h]
  obtain rfl : e = 2000 := by omega
  refine RndR.ofhuge hH (p2 _) ZO ?_
  have h1 := d.fvI
  have h2 := hmm (2000 + d.l)
  have h3 := Ma.pow_mono (show (1 : Int) ≤ 2 by omega) (show 2099 ≤ 2000 + d.l by omega)
  rw [show ((-2000 : Int)).toNat = 0 by rfl, Int.pow_zero, Int.mul_one, Int.mul_assoc, ← Int.pow_add, show ((2000 : Int)).toNat = 2000 by rfl]
  omega
 rcases Int.lt_or_le exp (-2000) with h' | h'
 ·rw [pack_small d hm (fun h => by cases h) h']
  obtain rfl : e = -2000 := by omega
  rw [show ((-2000 : Int)).toNat = 0 by rfl, show (-(-2000 : Int)).toNat = 2000 by rfl, Int.pow_zero, Int.mul_one]
  refine RndR.oftiny hI.2.2 hI.1 hI.2.1 (Int.mul_pos hm.1 (p2 _)) ?_
  have e1 : man * 2 ^ d.l < 2 ^ 64 * 2 ^ d.l := Int.mul_lt_mul_of_pos_right (by rw [show (2 : Int) ^ 64 = 18446744073709551616 by rfl]; omega) (p2 _)
  rw [← Int.pow_add] at e1
  have e2 := Ma.pow_mono (show (1 : Int) ≤ 2 by omega) (show 64 + d.l + 1 ≤ 2000 by omega)
  rw [Int.pow_succ] at e2
  omega
 obtain rfl : e = exp := by omega
 have hN : man * 2 ^ e.toNat * 2 ^ d.l * 2 ^ (-e).toNat = man * 2 ^ (e.toNat + d.l) * 2 ^ (-e).toNat := by rw [Int.pow_add, ← Int.mul_assoc]
 have hX : (0 : Int) < 2 ^ (e.toNat + d.l) * 2 ^ (-e).toNat := Int.mul_pos (p2 _) (p2 _)
 refine Z6d d (a := e.toNat + d.l) (b := (-e).toNat) hm (fun h => by cases h) (p2 _) ZO ZO ?_ ?_ ?_
 ·rw [hN]; omega
 ·rw [hN, Int.add_mul man, Int.add_mul, Int.one_mul]; omega
 rw [hN]
 constructor
 ·intro h; cases h
 intro h; omega
theorem ratio_rnd (d : Kd) {num den man r e : Int} {some : Bool} (hn : 0 < num) (hd : 0 < den) (he : e = Ma.blen num - Ma.blen den) (hm : 2 ^ 62 ≤ man ∧ man < 18446744073709551616)
  (hv : num * 2 ^ (-e).toNat * 2 ^ 63 = man * (den * 2 ^ e.toNat) + r) (hr : 0 ≤ r ∧ r < den * 2 ^ e.toNat) (hs : some = true ↔ 0 < r) : RndR d.H (d.I - 1) (num * 2 ^ d.l) den (Z5h d man (e - 63) some) := by
 have hH := d.hH0
 have hl := d.hl
 have hI := d.I_lt
 have hm0 : 0 < man ∧ man < 18446744073709551616 := ⟨by have := p2 62; omega, hm.2⟩
 obtain ⟨i, hi, hi1, hi2⟩ := Ma.blen_spec hn
 obtain ⟨j, hj, hj1, hj2⟩ := Ma.blen_spec hd
 rcases Int.lt_or_le 2000 (e - 63) with h | h
 ·rw [pack_big d hm0 (fun _ => hm.1) h]
  refine RndR.ofhuge hH hd ZO ?_
  have h1 : fv d.H (d.I - 1 + 1) * den ≤ 2 ^ 2099 * den := Int.mul_le_mul_of_nonneg_right d.fvI ZO
  have h2 : 2 ^ 2099 * den ≤ 2 ^ 2099 * 2 ^ (j + 1) := Int.mul_le_mul_of_nonneg_left ZO (Int.le_of_lt (p2 2099))
  have h3 : 2 ^ i * 2 ^ d.l ≤ num * 2 ^ d.l := Int.mul_le_mul_of_nonneg_right hi1 (Int.le_of_lt (p2 _))
  rw [← Int.pow_add] at h2 h3
  have h4 := Ma.pow_mono (show (1 : Int) ≤ 2 by omega) (show 2099 + (j + 1) ≤ i + d.l by omega)
  omega
 rcases Int.lt_or_le (e - 63) (-2000) with h' | h'
 ·rw [pack_small d hm0 (fun _ => hm.1) h']
  refine RndR.oftiny hI.2.2 hI.1 hI.2.1 (Int.mul_pos hn (p2 _)) ?_
  have h1 : num * 2 ^ d.l < 2 ^ (i + 1) * 2 ^ d.l := Int.mul_lt_mul_of_pos_right hi2 (p2 _)
  rw [← Int.pow_add] at h1
  have h2 := Ma.pow_mono (show (1 : Int) ≤ 2 by omega) (show i + 1 + d.l + 1 ≤ j by omega)
  rw [Int.pow_succ] at h2
  omega
 have hA : ∀ c : Int, c * 2 ^ (e.toNat + d.l) * den = c * (den * 2 ^ e.toNat) * 2 ^ d.l := fun c => by
  rw [Int.pow_add, ← Int.mul_assoc, Int.mul_right_comm, Int.mul_assoc c, Int.mul_comm (2 ^ e.toNat)]
 have hB : num * 2 ^ d.l * 2 ^ ((-e).toNat + 63) = (man * (den * 2 ^ e.toNat) + r) * 2 ^ d.l := by
  rw [← hv, Int.pow_add, ← Int.mul_assoc, Int.mul_right_comm num, Int.mul_right_comm (num * 2 ^ (-e).toNat)]
 refine Z6d d (a := e.toNat + d.l) (b := (-e).toNat + 63) hm0 (fun _ => hm.1) hd ZO ZO ?_ ?_ ?_
 ·rw [hA, hB]; exact Int.mul_le_mul_of_nonneg_right ZO (Int.le_of_lt (p2 _))
 ·rw [hA, hB]; exact Int.mul_lt_mul_of_pos_right (by rw [Int.add_mul]; omega) (p2 _)
 rw [hA, hB, hs]
 constructor
 ·intro h; exact Int.mul_lt_mul_of_pos_right ZO (p2 _)
 intro h; have := Int.lt_of_mul_lt_mul_right h (Int.le_of_lt (p2 _)); omega
def kd (k : Int) : Option Kd := if k = 9 then some .f32 else if k = 10 then some .f64 else none
theorem kd_some {k : Int} {d : Kd} (h : kd k = some d) : (k = 9 ∧ d = .f32) ∨ (k = 10 ∧ d = .f64) := by
 unfold kd at h
 split at h
 ·left; cases h; exact ⟨by assumption, rfl⟩
 split at h
 ·right; cases h; exact ⟨by assumption, rfl⟩
 cases h
def ShR (k m l a : Int) (b : Bool) : Prop := match kd k with
 | some d => m = d.M ∧ l = -(d.l : Int) ∧ a = d.A ∧ b = true
 | none => m = 0 ∧ l = 0 ∧ a = 0 ∧ b = false
theorem ShR.yes {k m l a : Int} (h : ShR k m l a true) : ∃ d, kd k = some d ∧ m = d.M ∧ l = -(d.l : Int) ∧ a = d.A := by
 unfold ShR at h
 split at h
 ·exact ⟨_, by assumption, h.1, h.2.1, h.2.2.1⟩
 exact absurd h.2.2.2 (by decide)
theorem ShR.no {k m l a : Int} (h : ShR k m l a false) : kd k = none := by
 unfold ShR at h
 split at h
 ·exact absurd h.2.2.2 (by decide)
 assumption
theorem ShR.is {k m l a : Int} {b : Bool} (h : ShR k m l a b) : b = (kd k).isSome := by
 unfold ShR at h
 split at h <;> rename_i e
 ·rw [e]; exact h.2.2.2
 rw [e]; exact h.2.2.2
def tM (i : Nat) : Int := if i = 0 then 24 else 53
def tL (i : Nat) : Int := if i = 0 then -149 else -1074
def tA (i : Nat) : Int := if i = 0 then 32 else 64
theorem Kd.bd (d : Kd) : 0 < d.H ∧ d.H < d.I ∧ d.I < d.S ∧ d.S ≤ 9223372036854775808 ∧ 24 ≤ d.M ∧ d.M ≤ 53 ∧ 32 ≤ d.A ∧ d.A ≤ 64 ∧ 149 ≤ d.l ∧ d.l ≤ 1074 := by cases d <;> decide
theorem sh_sign (d : Kd) : IntKind.u64.wrap (1 * 2 ^ (min ((d.A : Int) - 1).toNat 64)) = d.S := by cases d <;> rfl
theorem sh_half (d : Kd) : IntKind.u64.wrap (1 * 2 ^ (min ((d.M : Int) - 1).toNat 64)) = d.H := by cases d <;> rfl
theorem sh_inf (d : Kd) : IntKind.u64.wrap (d.S - d.H) = d.I := by cases d <;> rfl
theorem Kd.hS (d : Kd) : d.S = 2 ^ (d.A - 1) := by cases d <;> rfl
theorem Kd.hSn (d : Kd) : d.A - 1 < 64 ∧ 2 ^ (d.A - 1 + 1) = 2 * d.S := by cases d <;> exact ⟨by decide, rfl⟩
theorem or_S (d : Kd) {b : Int} (h : 0 ≤ b ∧ b < d.S) : bitw .or .u64 b d.S = b + d.S := by
 rw [d.hS] at h ⊢; exact top_or d.hSn.1 h
theorem Z7m (k : Int) (w : World) :
  Z0f P 109 [.int .i64 k] w fun r w' => ∃ m l a b, r = .tuple #[.agg #[.int .i64 m, .int .i64 l, .int .i64 a], .bool b] ∧ ShR k m l a b ∧ Grow w w' [] := by
 refine Z0o func109 rfl ntmps109 rfl ?_
 have H0 := St.start w
 refine Z03 (Z00 ?_)
 refine Z0X H0 ta158 rfl rfl (fun b0_0 w1 H1 => ?_)
 refine Zg (Z01 (Z02 ?_))
 refine Zk [0, 2] ?_
 refine Z03 (Z00 ?_)
 refine Z16 rfl rfl pl158 ta158 (.one rfl rfl ZR .zero (.one rfl rfl ZR (.succ .zero) (.one rfl rfl ZR (.succ (.succ .zero)) .nil))) ?_
 refine Z16 rfl rfl pl256 ta256 (.one rfl rfl ZR .zero (.row rfl rfl rfl (.succ (.zero (.zero (.zero .nil)))) .nil)) ?_
 refine Z16 rfl rfl pl158 ta158 (.one rfl rfl ZR .zero (.one rfl rfl ZR (.succ .zero) (.one rfl rfl ZR (.succ (.succ .zero)) .nil))) ?_
 refine Z16 rfl rfl pl256 ta256 (.one rfl rfl ZR .zero (.row rfl rfl rfl (.succ (.zero (.zero (.zero .nil)))) .nil)) ?_
 refine Z6r (pl := [(0, 4), (4, 4)]) rfl rfl underlying257 tz256 ta257 (by intro i q h; rcases i with _ | _ | i <;> simp at h <;> (try subst h) <;> rfl) (.row rfl rfl rfl (.zero (.zero (.zero (.zero .nil)))) (.row rfl rfl rfl (.succ (.succ (.succ (.succ (.zero (.zero (.zero (.zero .nil)))))))) .nil)) ?_
 refine Z0X H1 ta257 rfl rfl (fun b1_5 w2 H2 => ?_)
 refine Z0m H2 .head (.zero (.zero (.zero (.zero (.zero (.zero (.zero (.zero .nil)))))))) rfl tz257 rfl rfl ZC (fun w3 H3 => ?_)
 refine Z01 (Z02 ?_)
 refine Zk [0, 2, 4] ?_
 refine Z03 (Z03 (Z00 ?_))
 refine Z1b H3 mem0 rfl rfl underlying257 rfl tz257 rfl (.take (.take (.take (.take (.take (.take (.take (.take .nil)))))))) ?_
 refine Zm (Z01 (Z02 ?_))
 refine Zk [0, 2, 12, 13] ?_
 refine Z0d ?_
 refine Z0z (ι := Nat) (fun (i : Nat) => 2 - i) (fun (i : Nat) (w' : World) => St w w.heap.size Z0J ([As.blk b1_5 257 [.int .i64 9, .int .i64 24, .int .i64 (-149), .int .i64 32, .int .i64 10, .int .i64 53, .int .i64 (-1074), .int .i64 64], As.blk b0_0 158 [.int .i64 0, .int .i64 0, .int .i64 0]]) w' ∧ i ≤ 2 ∧ (0 < i → ¬ k = 9) ∧ (1 < i → ¬ k = 10)) (fun (i : Nat) => [(13, .int .i64 (i : Int))]) [0, 2, 12] (0) ?_ (.cons rfl (.cons rfl (.cons rfl .nil))) ?_ ?_
 ·exact ⟨H3, ZO, ZO, ZO⟩
 ·exact (.cons rfl ZN .nil)
 rintro i w4 ⟨H4, hi, h9, h10⟩
 show RunC P _ _ _ (_ :: _) _
 refine Z03 (Z00 ?_)
 refine Zl ?_
 refine Z01 (Z02 (Z03 ?_))
 (first | refine Z0c rfl ?_ ?_ | refine Z08 rfl ?_ ?_) <;> intro hc0
 ·refine Z0a (Z02 ?_)
  refine Zk [0, 2, 12, 13] ?_
  refine Z03 (Z0d (Z03 (Z00 ?_)))
  refine l_elemA (j := i) (vs := [.int .i64 (9 + i : Int), .int .i64 (tM i), .int .i64 (tL i), .int .i64 (tA i)]) rfl rfl underlying257 underlying256 tz256 rfl rfl ZO ZO (by rcases (show i = 0 ∨ i = 1 by omega) with rfl | rfl <;> rfl) ?_
  refine Z0X H4 ta256 rfl rfl (fun b4_1 w5 H5 => ?_)
  refine Z0m H5 .head (.zero (.zero (.zero (.zero .nil)))) rfl tz256 rfl rfl ZC (fun w6 H6 => ?_)
  refine Z01 (Z02 ?_)
  refine Zk [0, 2, 6, 12, 13] ?_
  refine Z03 (Z00 (Z09 fo256_0 rfl rfl rfl ?_))
  refine Z05 H6 mem0 rfl rfl underlying3 rfl rfl rfl ?_
  refine Zm ?_
  refine Ze ?_
  refine Z01 (Z02 ?_)
  refine Zk [0, 2, 6, 12, 13, 19] ?_
  (first | refine Z0c rfl ?_ ?_ | refine Z08 rfl ?_ ?_) <;> intro hc1
  ·refine Z03 (Z00 (Z09 fo256_1 rfl rfl rfl ?_))
   refine Z1b H6 mem0 rfl rfl underlying158 rfl Z5y rfl (.drop (.take (.take (.take .nil)))) ?_
   refine Z0m H6 (.tail (.tail .head)) (.zero (.zero (.zero .nil))) rfl Z5y rfl rfl ZC (fun w7 H7 => ?_)
   refine Zg (Z01 (Z02 ?_))
   refine Zk [2, 3] ?_
   refine Z0i ?_
   refine Z0k ?_
   refine Z07 ?_
   refine Z07 ?_
   refine Z0k ?_
   refine Z07 ?_
   refine Z12 results109 (.cell rfl (Z0E H7 mem2 underlying158 rfl Z5y (.take (.take (.take .nil)))) (.tmp rfl .nil)) rfl ?_
   refine ⟨_, rfl, ?_⟩
   have H10 := St.del .head (St.del (.tail .head) (St.del (.tail (.tail .head)) H7))
   refine ⟨_, _, _, _, rfl, ?_, H10.grows⟩
   unfold ShR kd
   rcases (show i = 0 ∨ i = 1 by omega) with rfl | rfl
   ·obtain rfl : k = 9 := by omega
    exact ⟨rfl, rfl, rfl, rfl⟩
   obtain rfl : k = 10 := by omega
   exact ⟨rfl, rfl, rfl, rfl⟩
  refine Z0a ?_
  refine Z0F ?_
  refine Z02 ?_
  refine Zk [0, 2, 12, 13] ?_
  refine Z00 ?_
  refine Z0y rfl rfl rfl rfl (Z0l ZO) ?_
  refine Zm (Z01 ?_)
  refine Z0p (i := (i)) (i + 1) ?_ ?_ (.cons rfl (.cons rfl (.cons rfl .nil))) ?_
  ·first | omega | (simp; omega)
  ·exact ⟨St.del .head H6, ZO, ZO, ZO⟩
  exact (.cons rfl ZN .nil)
 refine Z0H ?_
 refine Z06 ?_
 refine Z06 ?_
 refine Z0h ?_
 refine Z02 ?_
 refine Zk [2] ?_
 refine Z03 (Z00 ?_)
 refine Z16 rfl rfl pl158 ta158 .nil ?_
 refine Z0m H4 (.tail .head) (.zero (.zero (.zero .nil))) rfl Z5y rfl rfl ZC (fun w11 H11 => ?_)
 refine Zg (Z01 (Z02 ?_))
 refine Zk [2, 3] ?_
 refine Z0i ?_
 refine Z12 results109 (.cell rfl (Z0E H11 mem1 underlying158 rfl Z5y (.take (.take (.take .nil)))) (.tmp rfl .nil)) rfl ?_
 refine ⟨_, rfl, ?_⟩
 have H13 := St.del .head (St.del (.tail .head) H11)
 refine ⟨_, _, _, _, rfl, ?_, H13.grows⟩
 unfold ShR kd
 rw [if_neg (h9 ZO), if_neg (h10 ZO)]
 exact ⟨rfl, rfl, rfl, rfl⟩
theorem signB (d : Kd) (w : World) :
  Z0f P 107 [.agg #[.int .i64 (d.M : Int), .int .i64 (-(d.l : Int)), .int .i64 (d.A : Int)]] w fun r w' => r = .int .u64 d.S ∧ Grow w w' [] := by
 refine Z0o func107 rfl ntmps107 rfl ?_
 have H0 := St.start w
 have hbd := d.bd
 refine Z03 (Z00 ?_)
 refine Z57 H0 rfl rfl rfl (fun b0_0 w1 H1 => ?_)
 refine Zg (Z01 (Z02 ?_))
 refine Zk [1] ?_
 refine Z03 (Z00 (Z09 fo158_2 rfl rfl rfl ?_))
 refine Z05 H1 mem0 rfl rfl underlying3 rfl rfl rfl ?_
 refine Z0W rfl rfl rfl rfl (Z0l ZO) ?_
 refine Z5I rfl rfl rfl rfl ZO (sh_sign d) ?_
 refine Zg (Z01 (Z02 ?_))
 refine Zk [2] ?_
 refine Z0i ?_
 refine Z0e results107 rfl ?_
 refine ⟨_, rfl, ?_⟩
 have H2 := St.del .head H1
 exact ⟨rfl, H2.grows⟩
theorem infB (d : Kd) (w : World) :
  Z0f P 108 [.agg #[.int .i64 (d.M : Int), .int .i64 (-(d.l : Int)), .int .i64 (d.A : Int)]] w fun r w' => r = .int .u64 d.I ∧ Grow w w' [] := by
 refine Z0o func108 rfl ntmps108 rfl ?_
 have H0 := St.start w
 have hbd := d.bd
 refine Z03 (Z00 ?_)
 refine Z57 H0 rfl rfl rfl (fun b0_0 w1 H1 => ?_)
 refine Zg (Z01 (Z02 ?_))
 refine Zk [1] ?_
 refine Z03 ?_
 have H2 := H1.drewn
 refine Z1a (n := 8) [Zz,Zz,Zz,Zz,Zz,Zz,Zz,Zz] (fun wS => (As.blk b0_0 158 [.int .i64 (d.M : Int), .int .i64 (-(d.l : Int)), .int .i64 (d.A : Int)]).ok wS) ZK rfl rfl ?_
 apply Zu (L' := [Zy,Zz,Zz,Zz,Zz,Zz,Zz,Zz]) 0 (H2.ok mem0)
 ·intro wS sS
  refine Z1b (Z0r sS) mem0 rfl rfl underlying158 rfl Z5y rfl (.take (.take (.take .nil))) ?_
  refine Z01 ?_
  exact Z04 rfl
 apply Zu (L' := [Zy,Zz,Zy,Zz,Zz,Zz,Zz,Zz]) 2 (H2.ok mem0)
 ·intro wS sS
  refine Z09 Z6h rfl rfl rfl (Z01 ?_)
  exact Z04 rfl
 apply Zu (L' := [Zy,Zz,Zy,Zy,Zz,Zz,Zz,Zz]) 3 (H2.ok mem0)
 ·intro wS sS
  refine Z05 (Z0r sS) mem0 rfl rfl underlying3 rfl rfl rfl ?_
  refine Z01 ?_
  exact Z04 rfl
 apply Zu (L' := [Zy,Zz,Zy,Zy,Zy,Zz,Zz,Zz]) 4 (H2.ok mem0)
 ·intro wS sS
  refine Z0W rfl rfl rfl rfl (Z0l ZO) ?_
  refine Z01 ?_
  exact Z04 rfl
 apply Zu (L' := [Zy,Zz,Zy,Zy,Zy,Zy,Zz,Zz]) 5 (H2.ok mem0)
 ·intro wS sS
  refine Z5I rfl rfl rfl rfl ZO (sh_half d) ?_
  refine Z01 ?_
  exact Z04 rfl
 refine Z0v (L' := [Zy,Zy,Zy,Zy,Zy,Zy,Zz,Zz]) 1 ZK rfl rfl ?_
 refine Zc func107 (signB d w1.drew) ?_
 rintro _ w3 ⟨rfl, hG⟩
 have H3 := hG _ _ _ _ H2
 simp only [Zca, Zna] at H3
 refine Z01 ?_
 refine Z0n (H3.ok mem0) ?_
 apply Zu (L' := [Zy,Zy,Zy,Zy,Zy,Zy,Zy,Zz]) 6 (H3.ok mem0)
 ·intro wS sS
  refine Z0W rfl rfl rfl rfl (sh_inf d) ?_
  refine Z01 ?_
  exact Z04 rfl
 apply Zu (L' := [Zy,Zy,Zy,Zy,Zy,Zy,Zy,Zy]) 7 (H3.ok mem0)
 ·intro wS sS
  refine Zg (Z01 ?_)
  exact Z04 rfl
 refine Z0B ZK ?_
 refine Z02 ?_
 refine Zk [2] ?_
 refine Z0i ?_
 refine Z0e results108 rfl ?_
 refine ⟨_, rfl, ?_⟩
 have H4 := St.del .head H3
 exact ⟨rfl, H4.grows⟩
theorem Z6P (d : Kd) (neg : Bool) (b : Int) (hb : 0 ≤ b ∧ b < d.S) (w : World) :
  Z0f P 248 [.agg #[.int .i64 (d.M : Int), .int .i64 (-(d.l : Int)), .int .i64 (d.A : Int)], .bool neg, .int .u64 b] w fun r w' => r = .int .u64 (if neg then b + d.S else b) ∧ Grow w w' [] := by
 refine Z0o func248 rfl ntmps248 rfl ?_
 have H0 := St.start w
 have hbd := d.bd
 refine Z03 (Z00 ?_)
 refine Z57 H0 rfl rfl rfl (fun b0_0 w1 H1 => ?_)
 refine Zg (Z01 (Z02 ?_))
 refine Zk [1, 2, 3] ?_
 refine Z03 (Z03 (Z00 (Zm (Z01 (Z02 ?_)))))
 refine Zk [2, 3, 7] ?_
 (first | refine Z0c rfl ?_ ?_ | refine Z08 rfl ?_ ?_) <;> intro hc0
 ·refine Z03 (Z00 (Zm ?_))
  refine Z1b H1 mem0 rfl rfl underlying158 rfl Z5y rfl (.take (.take (.take .nil))) ?_
  refine Zc func107 (signB d w1) ?_
  rintro _ w2 ⟨rfl, hG⟩
  have H2 := hG _ _ _ _ H1
  simp only [Zca, Zna] at H2
  refine Z1i rfl rfl rfl rfl rfl (or_S d hb) ?_
  refine Zg (Z01 (Z02 ?_))
  refine Zk [6] ?_
  refine Z0i ?_
  refine Z07 ?_
  refine Z0e results248 rfl ?_
  refine ⟨_, rfl, ?_⟩
  have H3 := St.del .head H2
  exact ⟨by subst_vars; rfl, H3.grows⟩
 refine Z0a (Z02 ?_)
 refine Zk [2] ?_
 refine Z03 (Z00 (Zm (Zg (Z01 (Z02 ?_)))))
 refine Zk [6] ?_
 refine Z0i ?_
 refine Z0e results248 rfl ?_
 refine ⟨_, rfl, ?_⟩
 have H4 := St.del .head H1
 exact ⟨by simp_all, H4.grows⟩
theorem ShR.at {k m l a : Int} {b : Bool} {d : Kd} (h : ShR k m l a b) (hd : kd k = some d) : m = d.M ∧ l = -(d.l : Int) ∧ a = d.A := by
 unfold ShR at h
 rw [hd] at h
 exact ⟨h.1, h.2.1, h.2.2.1⟩
theorem shr_H (d : Kd) {b : Int} (_h : 0 ≤ b) : b.fdiv (2 ^ (min ((d.M : Int) - 1).toNat 64)) = b / d.H := by
 cases d <;> exact Int.fdiv_eq_ediv_of_nonneg _ (by decide)
def nx (d : Kd) (b : Int) : Int × Int := if d.I ≤ b % d.S then (0, 32) else if b % d.S = 0 then (1, 0) else if d.S ≤ b then (b - 1, 0) else if b + 1 = d.I then (0, 34) else (b + 1, 0)
def nanS : Kd → Int | .f32 => 2143289344 | .f64 => 9221120237041090560
theorem or_nan (d : Kd) : bitw .or .u64 d.I (IntKind.u64.wrap (1 * 2 ^ (min ((d.M : Int) - 2).toNat 64))) = nanS d := by cases d <;> decide
theorem nanB (k : Int) (w : World) :
  Z0f P 48 [.int .i64 k] w fun r w' => r = (match kd k with | some d => .tuple #[.int .u64 (nanS d), .int .i64 0] | none => .tuple #[.int .u64 0, .int .i64 30]) ∧ Grow w w' [] := by
 refine Z0o func48 rfl ntmps48 rfl ?_
 have H0 := St.start w
 refine Z03 (Z00 (Zg (Zg (Z01 (Z02 ?_)))))
 refine Zk [0] ?_
 refine Z03 (Z00 (Zm ?_))
 refine Zc func109 (Z7m k w) ?_
 rintro _ w1 ⟨m, l, a, sok, rfl, hSh, hG⟩
 have H1 := hG _ _ _ _ H0
 simp only [Zca, Zna] at H1
 refine Zm ?_
 refine Zx (Zx ?_)
 refine Z0X H1 ta158 rfl rfl (fun b1_5 w2 H2 => ?_)
 refine Z0m H2 .head (.zero (.zero (.zero .nil))) rfl Z5y rfl rfl ZC (fun w3 H3 => ?_)
 refine Zg (Z01 (Z02 ?_))
 refine Zk [4, 5] ?_
 refine Z03 (Z03 (Z00 (Zm ?_)))
 first | refine Z38 rfl rfl rfl ?_ | refine Z3v rfl rfl rfl ?_
 refine Z01 (Z02 ?_)
 refine Zk [4, 12] ?_
 (first | refine Z0c rfl ?_ ?_ | refine Z08 rfl ?_ ?_) <;> intro hc0
 ·have hno : kd k = none := by
   rw [hSh.is] at hc0
   cases h : kd k with
   | none => rfl
   | some d => rw [h] at hc0; simp at hc0
  refine Z03 (Z00 (Zg (Zg (Z01 (Z02 ?_)))))
  refine Zk [2, 3] ?_
  refine Z0i ?_
  refine Z07 ?_
  refine Z0P results48 rfl rfl ?_
  refine ⟨_, rfl, ?_⟩
  have H4 := St.del .head H3
  exact ⟨by rw [hno], H4.grows⟩
 obtain ⟨d, hd⟩ : ∃ d, kd k = some d := by
  rw [hSh.is] at hc0
  cases h : kd k with
  | none => rw [h] at hc0; simp at hc0
  | some d => exact ⟨d, rfl⟩
 obtain ⟨rfl, rfl, rfl⟩ := hSh.at hd
 have hbd := d.bd
 refine Z0a (Z02 ?_)
 refine Zk [4] ?_
 refine Z03 ?_
 have H5 := H3.drewn
 refine Z1a (n := 9) [Zz,Zz,Zz,Zz,Zz,Zz,Zz,Zz,Zz] (fun wS => (As.blk b1_5 158 [.int .i64 (d.M : Int), .int .i64 (-(d.l : Int)), .int .i64 (d.A : Int)]).ok wS) ZK rfl rfl ?_
 apply Zu (L' := [Zy,Zz,Zz,Zz,Zz,Zz,Zz,Zz,Zz]) 0 (H5.ok mem0)
 ·intro wS sS
  refine Z1b (Z0r sS) mem0 rfl rfl underlying158 rfl Z5y rfl (.take (.take (.take .nil))) ?_
  refine Z01 ?_
  exact Z04 rfl
 apply Zu (L' := [Zy,Zz,Zy,Zz,Zz,Zz,Zz,Zz,Zz]) 2 (H5.ok mem0)
 ·intro wS sS
  refine Z09 Z6h rfl rfl rfl (Z01 ?_)
  exact Z04 rfl
 apply Zu (L' := [Zy,Zz,Zy,Zy,Zz,Zz,Zz,Zz,Zz]) 3 (H5.ok mem0)
 ·intro wS sS
  refine Z05 (Z0r sS) mem0 rfl rfl underlying3 rfl rfl rfl ?_
  refine Z01 ?_
  exact Z04 rfl
 apply Zu (L' := [Zy,Zz,Zy,Zy,Zy,Zz,Zz,Zz,Zz]) 4 (H5.ok mem0)
 ·intro wS sS
  refine Z0W rfl rfl rfl rfl (Z0l ZO) ?_
  refine Z01 ?_
  exact Z04 rfl
 apply Zu (L' := [Zy,Zz,Zy,Zy,Zy,Zy,Zz,Zz,Zz]) 5 (H5.ok mem0)
 ·intro wS sS
  refine Z5I rfl rfl rfl rfl ZO (rfl) ?_
  refine Z01 ?_
  exact Z04 rfl
 refine Z0v (L' := [Zy,Zy,Zy,Zy,Zy,Zy,Zz,Zz,Zz]) 1 ZK rfl rfl ?_
 refine Zc func108 (infB d w3.drew) ?_
 rintro _ w6 ⟨rfl, hG⟩
 have H6 := hG _ _ _ _ H5
 simp only [Zca, Zna] at H6
 refine Z01 ?_
 refine Z0n (H6.ok mem0) ?_
 apply Zu (L' := [Zy,Zy,Zy,Zy,Zy,Zy,Zy,Zz,Zz]) 6 (H6.ok mem0)
 ·intro wS sS
  refine Z1i rfl rfl rfl rfl rfl (or_nan d) ?_
  refine Z01 ?_
  exact Z04 rfl
 apply Zu (L' := [Zy,Zy,Zy,Zy,Zy,Zy,Zy,Zy,Zz]) 7 (H6.ok mem0)
 ·intro wS sS
  refine Zg (Z01 ?_)
  exact Z04 rfl
 apply Zu (L' := [Zy,Zy,Zy,Zy,Zy,Zy,Zy,Zy,Zy]) 8 (H6.ok mem0)
 ·intro wS sS
  refine Zg (Z01 ?_)
  exact Z04 rfl
 refine Z0B ZK ?_
 refine Z02 ?_
 refine Zk [2, 3] ?_
 refine Z0i ?_
 refine Z0P results48 rfl rfl ?_
 refine ⟨_, rfl, ?_⟩
 have H7 := St.del .head H6
 exact ⟨by rw [hd], H7.grows⟩
theorem infsB (k : Int) (neg : Bool) (w : World) :
  Z0f P 203 [.int .i64 k, .bool neg] w fun r w' => r = (match kd k with | some d => .tuple #[.int .u64 (if neg then d.I + d.S else d.I), .int .i64 0] | none => .tuple #[.int .u64 0, .int .i64 30]) ∧ Grow w w' [] := by
 refine Z0o func203 rfl ntmps203 rfl ?_
 have H0 := St.start w
 refine Z03 (Z00 (Zg (Zg (Z01 (Z02 ?_)))))
 refine Zk [0, 1] ?_
 refine Z03 (Z00 (Zm ?_))
 refine Zc func109 (Z7m k w) ?_
 rintro _ w1 ⟨m, l, a, sok, rfl, hSh, hG⟩
 have H1 := hG _ _ _ _ H0
 simp only [Zca, Zna] at H1
 refine Zm ?_
 refine Zx (Zx ?_)
 refine Z0X H1 ta158 rfl rfl (fun b1_5 w2 H2 => ?_)
 refine Z0m H2 .head (.zero (.zero (.zero .nil))) rfl Z5y rfl rfl ZC (fun w3 H3 => ?_)
 refine Zg (Z01 (Z02 ?_))
 refine Zk [1, 6, 7] ?_
 refine Z03 (Z03 (Z00 (Zm ?_)))
 first | refine Z38 rfl rfl rfl ?_ | refine Z3v rfl rfl rfl ?_
 refine Z01 (Z02 ?_)
 refine Zk [1, 6, 14] ?_
 (first | refine Z0c rfl ?_ ?_ | refine Z08 rfl ?_ ?_) <;> intro hc0
 ·have hno : kd k = none := by
   rw [hSh.is] at hc0
   cases h : kd k with
   | none => rfl
   | some d => rw [h] at hc0; simp at hc0
  refine Z03 (Z00 (Zg (Zg (Z01 (Z02 ?_)))))
  refine Zk [4, 5] ?_
  refine Z0i ?_
  refine Z07 ?_
  refine Z0P results203 rfl rfl ?_
  refine ⟨_, rfl, ?_⟩
  have H4 := St.del .head H3
  exact ⟨by rw [hno], H4.grows⟩
 obtain ⟨d, hd⟩ : ∃ d, kd k = some d := by
  rw [hSh.is] at hc0
  cases h : kd k with
  | none => rw [h] at hc0; simp at hc0
  | some d => exact ⟨d, rfl⟩
 obtain ⟨rfl, rfl, rfl⟩ := hSh.at hd
 have hbd := d.bd
 refine Z0a (Z02 ?_)
 refine Zk [1, 6] ?_
 refine Z03 ?_
 have H5 := H3.drewn
 refine Z1a (n := 7) [Zz,Zz,Zz,Zz,Zz,Zz,Zz] (fun wS => (As.blk b1_5 158 [.int .i64 (d.M : Int), .int .i64 (-(d.l : Int)), .int .i64 (d.A : Int)]).ok wS) ZK rfl rfl ?_
 apply Zu (L' := [Zy,Zz,Zz,Zz,Zz,Zz,Zz]) 0 (H5.ok mem0)
 ·intro wS sS
  refine Z1b (Z0r sS) mem0 rfl rfl underlying158 rfl Z5y rfl (.take (.take (.take .nil))) ?_
  refine Z01 ?_
  exact Z04 rfl
 apply Zu (L' := [Zy,Zy,Zz,Zz,Zz,Zz,Zz]) 1 (H5.ok mem0)
 ·intro wS sS
  refine Zm (Z01 ?_)
  exact Z04 rfl
 apply Zu (L' := [Zy,Zy,Zy,Zz,Zz,Zz,Zz]) 2 (H5.ok mem0)
 ·intro wS sS
  refine Z1b (Z0r sS) mem0 rfl rfl underlying158 rfl Z5y rfl (.take (.take (.take .nil))) ?_
  refine Z01 ?_
  exact Z04 rfl
 refine Z0v (L' := [Zy,Zy,Zy,Zy,Zz,Zz,Zz]) 3 ZK rfl rfl ?_
 refine Zc func108 (infB d w3.drew) ?_
 rintro _ w6 ⟨rfl, hG⟩
 have H6 := hG _ _ _ _ H5
 simp only [Zca, Zna] at H6
 refine Z01 ?_
 refine Z0n (H6.ok mem0) ?_
 refine Z0v (L' := [Zy,Zy,Zy,Zy,Zy,Zz,Zz]) 4 ZK rfl rfl ?_
 refine Zc func248 (Z6P d neg d.I ZO w6) ?_
 rintro _ w7 ⟨rfl, hG⟩
 have H7 := hG _ _ _ _ H6
 simp only [Zca, Zna] at H7
 refine Z01 ?_
 refine Z0n (H7.ok mem0) ?_
 apply Zu (L' := [Zy,Zy,Zy,Zy,Zy,Zy,Zz]) 5 (H7.ok mem0)
 ·intro wS sS
  refine Zg (Z01 ?_)
  exact Z04 rfl
 apply Zu (L' := [Zy,Zy,Zy,Zy,Zy,Zy,Zy]) 6 (H7.ok mem0)
 ·intro wS sS
  refine Zg (Z01 ?_)
  exact Z04 rfl
 refine Z0B ZK ?_
 refine Z02 ?_
 refine Zk [4, 5] ?_
 refine Z0i ?_
 refine Z0P results203 rfl rfl ?_
 refine ⟨_, rfl, ?_⟩
 have H8 := St.del .head H7
 exact ⟨by rw [hd], H8.grows⟩
end Go.Proofs.YtgjgahmhoflgcaaGreatDoor.W
