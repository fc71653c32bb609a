/- walks of the document's bits: shapes, Class, Split, Next, Prev, Cmp -/
import Derived.Test.YtfomhfbmmjhljaaGreatDoorVr
import Derived.Test.YtfomhfbmmjhljaaGreatDoorGd
set_option linter.unusedVariables false
set_option linter.unusedSimpArgs false
set_option maxRecDepth 10000
namespace Go.Proofs.YtfomhfbmmjhljaaGreatDoor.W
open Go.Vc Go.RowKit
def Kd.X : Kd → Int | .f32 => 256 | .f64 => 2048
theorem Z1X {x y : Int} (hx0 : 0 ≤ x) (hy0 : 0 ≤ y) {m n : Nat} (hx : Ma.blen x ≤ m) (hy : Ma.blen y ≤ n) : Ma.blen (x * y) ≤ (m + n : Nat) := by
 refine (Ma.blen_le_iff (Int.mul_nonneg hx0 hy0) (m + n)).2 ?_
 have h1 := (Ma.blen_le_iff hx0 m).1 hx
 have h2 := (Ma.blen_le_iff hy0 n).1 hy
 have h3 : x * y ≤ x * 2 ^ n := Int.mul_le_mul_of_nonneg_left ZO hx0
 have h4 : (x + 1) * 2 ^ n ≤ 2 ^ m * 2 ^ n := Int.mul_le_mul_of_nonneg_right ZO ZO
 have hp := Ma.pow_pos (show (0 : Int) < 2 by omega) n
 rw [Int.pow_add]
 rw [Int.add_mul] at h4
 omega
theorem fv_spl (d : Kd) {b : Int} (hb : 0 ≤ b ∧ b < d.I) : 0 ≤ splE d b + d.l ∧ splE d b ≤ 1000 ∧ 0 ≤ splM d b ∧ splM d b ≤ 9007199254740992 ∧ fv d.H b = splM d b * 2 ^ (splE d b + d.l).toNat ∧ fv d.H (b + 1) = (splM d b + 1) * 2 ^ (splE d b + d.l).toNat := by
 have hbd := d.bd
 have hH53 : d.H ≤ 4503599627370496 := by cases d <;> decide
 have hm : b % d.S = b := Int.emod_eq_of_lt hb.1 ZO
 have hq := quo_H d hb.1 hb.2
 have hX : b / d.H - 1 - d.l ≤ 1000 := by
  cases d
  ·have h2 : b < 2139095040 := hb.2
   show b / 8388608 - 1 - 149 ≤ 1000; omega
  have h2 : b < 9218868437227405312 := hb.2
  show b / 4503599627370496 - 1 - 1074 ≤ 1000; omega
 have e := Int.emod_add_mul_ediv b d.H
 unfold splE splM
 rw [hm]
 by_cases h : b < d.H
 ·rw [if_pos h, if_pos h, show (-(d.l : Int) + d.l) = 0 by omega]
  have e1 := Z3X hbd.1 0 hb.1 ZO (.inl rfl)
  have e2 := Z3X (x := b + 1) hbd.1 0 ZO ZO (.inl rfl)
  rw [show ((0 : Nat) : Int) * d.H = 0 by simp, Int.add_zero] at e1 e2
  exact ⟨ZO, ZO, hb.1, ZO, e1, e2⟩
 rw [if_neg h, if_neg h]
 obtain ⟨u, hu⟩ : ∃ u : Nat, b / d.H = u + 1 := ⟨(b / d.H - 1).toNat, ZO⟩
 have hbu : b = (b % d.H + d.H) + u * d.H := by
  rw [hu, Int.mul_add, Int.mul_comm d.H u] at e; omega
 have e1 := Z3X (x := b % d.H + d.H) hbd.1 u ZO ZO (.inr ZO)
 have e2 := Z3X (x := b % d.H + d.H + 1) hbd.1 u ZO ZO (.inr ZO)
 rw [← hbu] at e1
 rw [show b % d.H + d.H + 1 + u * d.H = b + 1 by omega] at e2
 rw [show (-(d.l : Int) + (b / d.H - 1) + d.l).toNat = u by omega]
 exact ⟨ZO, ZO, ZO, ZO, e1, e2⟩
theorem near_exact {d : Kd} {N D b : Int} (hD : 0 < D) (hb : 0 ≤ b ∧ b ≤ d.I - 1) (h : fv d.H b * D = N) : RndR d.H (d.I - 1) N D (b, true, 0) := by
 have hbd := d.bd
 have hI := d.I_lt
 have hl := Z3j hbd.1 hb.1
 have hlD := Int.mul_lt_mul_of_pos_right hl hD
 have hu : ¬ upR d.H N D b := by
  unfold upR
  rw [Int.add_mul]
  omega
 have := RndR.of hbd.1 hD ZO hI.2.1 hb.1 (Int.le_of_eq h) ZO
 rw [if_neg hu, if_pos ZO, decide_eq_true h] at this
 exact this
theorem near_up {d : Kd} {N D b : Int} (hD : 0 < D) (hb : 0 ≤ b ∧ b ≤ d.I - 1) (h : fv d.H b * D ≤ N) (h2 : b = d.I - 1 ∨ N < fv d.H (b + 1) * D) (hu : upR d.H N D b) :
  RndR d.H (d.I - 1) N D (if b = d.I - 1 then (0, false, 34) else (b + 1, false, 0)) := by
 have hbd := d.bd
 have hI := d.I_lt
 have hne : ¬ fv d.H b * D = N := by
  intro e
  have hlD := Int.mul_lt_mul_of_pos_right (Z3j hbd.1 hb.1) hD
  unfold upR at hu
  rw [Int.add_mul] at hu
  omega
 by_cases hg : b = d.I - 1
 ·rw [if_pos hg]
  subst hg
  refine .inl ⟨?_, rfl⟩
  unfold upR at hu
  omega
 rw [if_neg hg]
 have := RndR.of hbd.1 hD ZO hI.2.1 hb.1 h (h2.resolve_left hg)
 rw [if_pos hu, if_pos ZO, decide_eq_false hne] at this
 exact this
theorem Z3M (x : Int) : nv [x] = x := by show x + _ * 0 = x; omega
end Go.Proofs.YtfomhfbmmjhljaaGreatDoor.W
