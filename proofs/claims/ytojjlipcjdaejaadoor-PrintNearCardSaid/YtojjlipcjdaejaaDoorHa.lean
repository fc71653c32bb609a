/- plain facts: decimal numbers beside floats -/
import Derived.Test.YtojjlipcjdaejaaDoorGg
import Derived.Test.YtojjlipcjdaejaaDoorNa
import Derived.Test.YtojjlipcjdaejaaDoorRf
set_option linter.unusedVariables false
set_option linter.unusedSimpArgs false
set_option maxRecDepth 10000
namespace Go.Proofs.YtojjlipcjdaejaaDoor.W
open Go.Vc Go.RowKit
theorem p2_ (k : Nat) : (0 : Int) < 2 ^ k := Ma.pow_pos (by omega) k
/-! ### decimal numbers beside floats -/
def fN (x e : Int) : Int := x * 10 ^ (-e).toNat
def fD (y e : Int) : Int := y * 10 ^ e.toNat
theorem p10 (k : Nat) : (0 : Int) < 10 ^ k := Ma.pow_pos (by omega) k
theorem fN_nonneg {x : Int} (hx : 0 ≤ x) (e : Int) : 0 ≤ fN x e := Int.mul_nonneg hx (Int.le_of_lt (p10 _))
theorem fD_pos {y : Int} (hy : 0 < y) (e : Int) : 0 < fD y e := Int.mul_pos hy (p10 _)
theorem fN_at {x e : Int} : (0 ≤ e → fN x e = x ∧ fN x (e + 1) = x) ∧ (e < 0 → fN x e = 10 * fN x (e + 1)) := by
 unfold fN
 refine ⟨fun h => ?_, fun h => ?_⟩
 ·rw [show (-e).toNat = 0 from by omega, show (-(e + 1)).toNat = 0 from by omega]
  simp
 ·rw [show (-e).toNat = (-(e + 1)).toNat + 1 from by omega, Int.pow_succ, ← Int.mul_assoc, Int.mul_comm 10]
theorem fD_at {y e : Int} : (0 ≤ e → fD y (e + 1) = 10 * fD y e) ∧ (e < 0 → fD y e = y ∧ fD y (e + 1) = y) := by
 unfold fD
 refine ⟨fun h => ?_, fun h => ?_⟩
 ·rw [show (e + 1).toNat = e.toNat + 1 from by omega, Int.pow_succ, ← Int.mul_assoc, Int.mul_comm 10]
 ·rw [show e.toNat = 0 from by omega, show (e + 1).toNat = 0 from by omega]
  simp
theorem fstepc (x y e c : Int) : c * fD y (e + 1) ≤ fN x (e + 1) ↔ c * 10 * fD y e ≤ fN x e := by
 rcases Int.lt_or_le e 0 with h | h
 ·obtain ⟨h1, h2⟩ := (fD_at (y := y)).2 h
  rw [fN_at.2 h, h1, h2, Int.mul_right_comm]
  omega
 ·obtain ⟨h1, h2⟩ := (fN_at (x := x)).1 h
  rw [fD_at.1 h, h1, h2, Int.mul_assoc]
theorem fstepn (x y e c : Int) : ∀ n : Nat, c * fD y (e + n) ≤ fN x (e + n) ↔ c * 10 ^ n * fD y e ≤ fN x e
 | 0 => by simp
 | n + 1 => by
  have h := fstepc x y (e + n) c
  rw [show e + ((n + 1 : Nat) : Int) = e + n + 1 from by omega, h, fstepn x y e (c * 10) n, Int.pow_succ, Int.mul_assoc c, Int.mul_comm 10]
theorem fmono {x y e : Int} (hy : 0 < y) (n : Nat) (c : Int) (hc : 0 ≤ c) (h : fN x e < c * fD y e) : fN x (e + n) < c * fD y (e + n) := by
 rcases Int.lt_or_le (fN x (e + n)) (c * fD y (e + n)) with h1 | h1
 ·exact h1
 ·exfalso
  have h2 := (fstepn x y e c n).1 h1
  have hd := fD_pos hy e
  have hp := p10 n
  have h3 : c * 1 ≤ c * 10 ^ n := Int.mul_le_mul_of_nonneg_left (by omega) hc
  have h4 : c * 1 * fD y e ≤ c * 10 ^ n * fD y e := Int.mul_le_mul_of_nonneg_right h3 (Int.le_of_lt hd)
  rw [Int.mul_one] at h4
  omega
def TopR (x y t : Int) : Prop := fD y t ≤ fN x t ∧ fN x (t + 1) < fD y (t + 1)
theorem TopR.unique {x y t u : Int} (hy : 0 < y) (h : TopR x y t) (k : TopR x y u) : t = u := by
 have key : ∀ {t u : Int}, TopR x y t → TopR x y u → ¬ t < u := fun {t u} h k hl => by
  have := fmono hy (u - (t + 1)).toNat 1 (by omega) (by rw [Int.one_mul]; exact h.2)
  rw [Int.one_mul, show t + 1 + ((u - (t + 1)).toNat : Int) = u from by omega] at this
  have := k.1
  omega
 rcases Int.lt_trichotomy t u with hl | hl | hl
 ·exact absurd hl (key h k)
 ·exact hl
 ·exact absurd hl (key k h)
theorem digs_lt {x y t : Int} (hy : 0 < y) (h : TopR x y t) (n : Nat) : fN x (t + 1 - n) / fD y (t + 1 - n) < 10 ^ n := by
 refine Int.ediv_lt_of_lt_mul (fD_pos hy _) ?_
 rcases Int.lt_or_le (fN x (t + 1 - n)) (10 ^ n * fD y (t + 1 - n)) with h1 | h1
 ·exact h1
 ·exfalso
  have := (fstepn x y (t + 1 - n) 1 n).2 (by rw [Int.one_mul]; exact h1)
  rw [Int.one_mul, show t + 1 - (n : Int) + n = t + 1 from by omega] at this
  have := h.2
  omega
theorem digs_ge {x y t : Int} (hy : 0 < y) (h : TopR x y t) (n : Nat) : 10 ^ n ≤ fN x (t - n) / fD y (t - n) := by
 rw [Int.le_ediv_iff_mul_le (fD_pos hy _)]
 have := (fstepn x y (t - n) 1 n).1 (by rw [Int.one_mul, show t - (n : Int) + n = t from by omega]; exact h.1)
 rwa [Int.one_mul] at this
def rdT (d : Kd) (m e : Int) (t : Int × Bool × Int) : Prop := RndR d.H (d.I - 1) (m * 10 ^ e.toNat * 2 ^ d.l) (10 ^ (-e).toNat) t
def rdP (d : Kd) (b m e : Int) : Prop :=
 ((fv d.H (b - 1) + fv d.H b) * 10 ^ (-e).toNat < 2 * (m * 10 ^ e.toNat * 2 ^ d.l) ∨ (fv d.H (b - 1) + fv d.H b) * 10 ^ (-e).toNat = 2 * (m * 10 ^ e.toNat * 2 ^ d.l) ∧ b % 2 = 0) ∧
 (2 * (m * 10 ^ e.toNat * 2 ^ d.l) < (fv d.H b + fv d.H (b + 1)) * 10 ^ (-e).toNat ∨ 2 * (m * 10 ^ e.toNat * 2 ^ d.l) = (fv d.H b + fv d.H (b + 1)) * 10 ^ (-e).toNat ∧ b % 2 = 0)
instance (d : Kd) (b m e : Int) : Decidable (rdP d b m e) := by unfold rdP; infer_instance
theorem mid_mono {H a b : Int} (hH : 0 < H) (ha : 0 ≤ a) (h : a < b) : fv H a + fv H (a + 1) + 1 ≤ fv H b + fv H (b + 1) := by
 have h1 := fv_mono hH (show 0 ≤ a + 1 by omega) (show a + 1 ≤ b by omega)
 have h2 := fv_lt hH ha
 have h3 := fv_lt hH (b := b) (by omega)
 omega
theorem mid_step {H a b D : Int} (hH : 0 < H) (hD : 0 < D) (ha : 0 ≤ a) (h : a < b) : (fv H a + fv H (a + 1)) * D < (fv H b + fv H (b + 1)) * D := by
 have h1 := mid_mono hH ha h
 exact Int.mul_lt_mul_of_pos_right (by omega) hD
theorem mid_le {H a b D : Int} (hH : 0 < H) (hD : 0 < D) (ha : 0 ≤ a) (h : a ≤ b) : (fv H a + fv H (a + 1)) * D ≤ (fv H b + fv H (b + 1)) * D := by
 rcases Int.lt_or_eq_of_le h with h | h
 ·exact Int.le_of_lt (mid_step hH hD ha h)
 ·subst h; exact Int.le_refl _
theorem rd_unique {d : Kd} {a b m e : Int} (ha : 0 < a) (hb : 0 < b) (h : rdP d a m e) (k : rdP d b m e) : a = b := by
 have key : ∀ {a b : Int}, 0 < a → 0 < b → rdP d a m e → rdP d b m e → ¬ a < b := fun {a b} ha hb h k hl => by
  have hD := p10 (-e).toNat
  obtain ⟨_, h2⟩ := h
  obtain ⟨k1, _⟩ := k
  generalize 2 * (m * 10 ^ e.toNat * 2 ^ d.l) = N at *
  rcases Int.lt_or_eq_of_le (show a + 1 ≤ b by omega) with h3 | h3
  ·have := mid_step d.hH0 hD (a := a) (b := b - 1) (by omega) (by omega)
   rw [show b - 1 + 1 = b from by omega] at this
   omega
  ·have e1 : b - 1 = a := by omega
   rw [e1, ← h3] at k1
   omega
 rcases Int.lt_trichotomy a b with hl | hl | hl
 ·exact absurd hl (key ha hb h k)
 ·exact hl
 ·exact absurd hl (key hb ha k h)
theorem rdP_iff {d : Kd} {b m e : Int} {t : Int × Bool × Int} (hb : 0 < b ∧ b < d.I) (h : rdT d m e t) : rdP d b m e ↔ t.2.2 = 0 ∧ t.1 = b := by
 have hD := p10 (-e).toNat
 have hbd := d.bd
 have hI := d.I_lt
 unfold rdT at h
 obtain ⟨N, hN⟩ : ∃ N, m * 10 ^ e.toNat * 2 ^ d.l = N := ⟨_, rfl⟩
 obtain ⟨D, hDd⟩ : ∃ D : Int, (10 : Int) ^ (-e).toNat = D := ⟨_, rfl⟩
 rw [hDd] at hD
 rcases h with ⟨h, rfl⟩ | ⟨h, b0, h0, hG, h1, h2, rfl⟩
 ·constructor
  ·rintro ⟨_, k⟩
   rw [hN, hDd] at h k
   have := mid_le d.hH0 hD (a := b) (b := d.I - 1) (by omega) (by omega)
   rcases Int.lt_or_eq_of_le (show b ≤ d.I - 1 by omega) with h3 | h3
   ·have := mid_step d.hH0 hD (a := b) (b := d.I - 1) (by omega) h3
    omega
   ·have := hI.2.1
    rw [← h3] at h this
    omega
  ·rintro ⟨h3, _⟩
   exact absurd h3 (by show ¬ (34 : Int) = 0; omega)
 ·rw [hN, hDd] at h h1 h2
  -- where the rounded number lies
  have hc : ∀ c : Int, 0 < c → c = (if upR d.H N D b0 then b0 + 1 else b0) → rdP d c m e := fun c hc0 hc => by
   unfold rdP
   rw [hN, hDd]
   by_cases hu : upR d.H N D b0
   ·rw [if_pos hu] at hc
    subst hc
    have hl := Int.mul_lt_mul_of_pos_right (fv_lt d.hH0 (b := b0 + 1) (by omega)) hD
    unfold upR at hu
    rw [show b0 + 1 - 1 = b0 from by omega, Int.add_mul (fv d.H (b0 + 1))]
    omega
   ·rw [if_neg hu] at hc
    subst hc
    have hl := Int.mul_lt_mul_of_pos_right (fv_lt d.hH0 (b := c - 1) (by omega)) hD
    rw [show c - 1 + 1 = c from by omega] at hl
    unfold upR at hu
    rw [Int.add_mul (fv d.H (c - 1))]
    omega
  have hz : ∀ c : Int, c = (if upR d.H N D b0 then b0 + 1 else b0) → c = 0 → ¬ rdP d b m e := fun c hc hc0 => by
   rintro ⟨k, _⟩
   rw [hN, hDd] at k
   by_cases hu : upR d.H N D b0
   ·rw [if_pos hu] at hc; omega
   ·rw [if_neg hu] at hc
    have hb0 : b0 = 0 := by omega
    subst hb0
    have := mid_le d.hH0 hD (a := 0) (b := b - 1) (by omega) (by omega)
    rw [show b - 1 + 1 = b from by omega] at this
    unfold upR at hu
    rcases Int.lt_or_eq_of_le (show 1 ≤ b by omega) with h3 | h3
    ·have := mid_step d.hH0 hD (a := 0) (b := b - 1) (by omega) (by omega)
     rw [show b - 1 + 1 = b from by omega] at this
     omega
    ·rw [← h3] at k
     rw [show (1 : Int) - 1 = 0 from rfl] at k
     rw [show (0 : Int) + 1 = 1 from rfl] at hu
     omega
  obtain ⟨c, hcd⟩ : ∃ c, c = (if upR d.H N D b0 then b0 + 1 else b0) := ⟨_, rfl⟩
  have hcn : 0 ≤ c := by rw [hcd]; split <;> omega
  show rdP d b m e ↔ (0 : Int) = 0 ∧ (if upR d.H (m * 10 ^ e.toNat * 2 ^ d.l) (10 ^ (-e).toNat) b0 then b0 + 1 else b0) = b
  rw [hN, hDd, ← hcd]
  constructor
  ·intro k
   refine ⟨rfl, ?_⟩
   rcases Int.lt_or_eq_of_le hcn with h3 | h3
   ·exact rd_unique h3 hb.1 (hc c h3 hcd) k
   ·exact absurd k (hz c hcd h3.symm)
  ·rintro ⟨_, h3⟩
   rw [← h3]
   exact hc c (by omega) hcd
theorem fv_gap (d : Kd) {b : Int} (hb : 0 < b) : fv d.H b ≤ 9007199254740992 * (fv d.H b - fv d.H (b - 1)) ∧ fv d.H (b - 1) < fv d.H b := by
 obtain ⟨x, u, _, h1, h2, _, e1, e2⟩ := fv_form d.hH0 (b := b - 1) (by omega)
 rw [show b - 1 + 1 = b from by omega] at e2
 have hp := Ma.pow_pos (show (0 : Int) < 2 by omega) u
 have hH : 2 * d.H ≤ 9007199254740992 := by cases d <;> decide
 rw [e1, e2, Int.add_mul, Int.one_mul]
 have h3 : (x + 1) * 2 ^ u ≤ 9007199254740992 * 2 ^ u := Int.mul_le_mul_of_nonneg_right (by omega) (Int.le_of_lt hp)
 rw [Int.add_mul, Int.one_mul] at h3
 omega
theorem rd_low {d : Kd} {b x y e : Int} (hb : 0 < b ∧ b < d.I) (hx : 0 ≤ x) (hy : 0 < y) (hv : fv d.H b * y = x * 2 ^ d.l) (h17 : 100000000000000000 ≤ fN x e / fD y e) : rdP d b (fN x e / fD y e) e := by
 obtain ⟨m, hm⟩ : ∃ m, fN x e / fD y e = m := ⟨_, rfl⟩
 rw [hm] at h17 ⊢
 have hl := Ma.pow_pos (show (0 : Int) < 2 by omega) d.l
 have hD := fD_pos hy e
 have e0 := Int.emod_add_mul_ediv (fN x e) (fD y e)
 have e1 := Int.emod_nonneg (fN x e) (show fD y e ≠ 0 by omega)
 have e2 := Int.emod_lt_of_pos (fN x e) hD
 rw [hm] at e0
 have h1 : fD y e * m ≤ fN x e := by omega
 have h2 : fN x e < fD y e * m + fD y e := by omega
 unfold fD fN at h1 h2
 obtain ⟨A, hA⟩ : ∃ A : Int, (10 : Int) ^ e.toNat = A := ⟨_, rfl⟩
 obtain ⟨D, hDd⟩ : ∃ D : Int, (10 : Int) ^ (-e).toNat = D := ⟨_, rfl⟩
 have hA0 : 0 < A := hA ▸ p10 _
 have hD0 : 0 < D := hDd ▸ p10 _
 rw [hA, hDd] at h1 h2
 obtain ⟨G, hG⟩ : ∃ G : Int, A * 2 ^ d.l = G := ⟨_, rfl⟩
 have hG0 : 0 < G := hG ▸ Int.mul_pos hA0 hl
 obtain ⟨F, hF⟩ : ∃ F : Int, fv d.H b = F := ⟨_, rfl⟩
 obtain ⟨F1, hF1⟩ : ∃ F1 : Int, fv d.H (b - 1) = F1 := ⟨_, rfl⟩
 have hgap := fv_gap d hb.1
 rw [hF, hF1] at hgap
 rw [hF] at hv
 have hN : m * A * 2 ^ d.l = m * G := by rw [← hG, Int.mul_assoc]
 -- both sides times 2^l, over y
 have k1 : m * G * y ≤ F * D * y := by
  have := Int.mul_le_mul_of_nonneg_right h1 (Int.le_of_lt hl)
  rw [show y * A * m * 2 ^ d.l = m * G * y from by rw [← hG]; simp only [Int.mul_assoc, Int.mul_comm, Int.mul_left_comm], show x * D * 2 ^ d.l = F * D * y from by rw [Int.mul_right_comm, ← hv]; simp only [Int.mul_assoc, Int.mul_comm, Int.mul_left_comm]] at this
  exact this
 have k2 : F * D * y < (m * G + G) * y := by
  have := Int.mul_lt_mul_of_pos_right h2 hl
  rw [show (y * A * m + y * A) * 2 ^ d.l = (m * G + G) * y from by rw [← hG, Int.add_mul, Int.add_mul]; congr 1 <;> simp only [Int.mul_assoc, Int.mul_comm, Int.mul_left_comm], show x * D * 2 ^ d.l = F * D * y from by rw [Int.mul_right_comm, ← hv]; simp only [Int.mul_assoc, Int.mul_comm, Int.mul_left_comm]] at this
  exact this
 have j1 : m * G ≤ F * D := Int.le_of_mul_le_mul_right k1 hy
 have j2 : F * D < m * G + G := Int.lt_of_mul_lt_mul_right k2 (Int.le_of_lt hy)
 have j3 : 100000000000000000 * G ≤ m * G := Int.mul_le_mul_of_nonneg_right h17 (Int.le_of_lt hG0)
 have j4 : F * D ≤ 9007199254740992 * ((F - F1) * D) := by
  have := Int.mul_le_mul_of_nonneg_right hgap.1 (Int.le_of_lt hD0)
  rwa [Int.mul_assoc] at this
 have j5 : (F - F1) * D = F * D - F1 * D := Int.sub_mul ..
 have hbd := d.bd
 refine (rdP_iff (t := if m * G = F * D then (b, true, 0) else (b, false, 0)) hb ?_).2 ⟨by split <;> rfl, by split <;> rfl⟩
 unfold rdT
 rw [hA, hDd, hN]
 split
 ·rename_i h
  exact near_exact hD0 ⟨by omega, by omega⟩ (by rw [hF, h])
 ·rename_i h
  have := near_up (d := d) (N := m * G) (D := D) (b := b - 1) hD0 ⟨by omega, by omega⟩ (by rw [hF1]; omega) (.inr (by rw [show b - 1 + 1 = b from by omega, hF]; omega)) (.inl (by rw [show b - 1 + 1 = b from by omega, hF, hF1, Int.add_mul]; omega))
  rw [if_neg (by omega), show b - 1 + 1 = b from by omega] at this
  exact this
theorem val_frac (d : Kd) {b : Int} (hb : 0 ≤ b ∧ b < d.I) : fv d.H b * 2 ^ (-(splE d b)).toNat = splM d b * 2 ^ (splE d b).toNat * 2 ^ d.l := by
 have hfs := fv_spl d hb
 rw [hfs.2.2.2.2.1, Int.mul_assoc, ← Int.pow_add, Int.mul_assoc, ← Int.pow_add]
 congr 2
 omega
def estE (L : Int) : Int := (L * 30103).tdiv 100000 - 2
def estP (L : Int) : Prop := 10 ^ (estE L).toNat * 2 ^ (1 - L).toNat ≤ (10 : Int) ^ (-(estE L)).toNat * 2 ^ (L - 1).toNat ∧ 2 ^ (L + 1).toNat * 10 ^ (-(estE L)).toNat ≤ (18446744073709551616 : Int) * 10 ^ (estE L).toNat * 2 ^ (-(L + 1)).toNat ∧ -400 ≤ estE L ∧ estE L ≤ 340
instance (L : Int) : Decidable (estP L) := by unfold estP; infer_instance
set_option maxRecDepth 100000 in
theorem est_all : ∀ i : Fin 2200, estP ((i.val : Int) - 1100) := by decide +kernel
theorem est_ok {x y : Int} {a b : Nat} (ha : 2 ^ a ≤ x ∧ x < 2 ^ (a + 1)) (hb : 2 ^ b ≤ y ∧ y < 2 ^ (b + 1)) {L : Int} (hL : L = (a : Int) - b) (hr : -1100 ≤ L ∧ L < 1100) :
  fD y (estE L) ≤ fN x (estE L) ∧ fN x (estE L) < 18446744073709551616 * fD y (estE L) ∧ -400 ≤ estE L ∧ estE L ≤ 340 := by
 have h := est_all ⟨(L + 1100).toNat, by omega⟩
 rw [show (((L + 1100).toNat : Nat) : Int) - 1100 = L from by omega] at h
 obtain ⟨h1, h2, h3, h4⟩ := h
 have p2' : ∀ k : Nat, (0 : Int) < 2 ^ k := fun k => Ma.pow_pos (by omega) k
 refine ⟨?_, ?_, h3, h4⟩
 ·unfold fD fN
  obtain ⟨A, hA⟩ : ∃ A : Int, (10 : Int) ^ (estE L).toNat = A := ⟨_, rfl⟩
  obtain ⟨D, hD⟩ : ∃ D : Int, (10 : Int) ^ (-(estE L)).toNat = D := ⟨_, rfl⟩
  have hA0 : 0 < A := hA ▸ p10 _
  have hD0 : 0 < D := hD ▸ p10 _
  rw [hA, hD] at h1 ⊢
  have k1 : y * A < 2 ^ (b + 1) * A := Int.mul_lt_mul_of_pos_right hb.2 hA0
  have k2 : 2 ^ a * D ≤ x * D := Int.mul_le_mul_of_nonneg_right ha.1 (Int.le_of_lt hD0)
  have k3 : 2 ^ (b + 1) * A ≤ 2 ^ a * D := by
   rcases Int.lt_or_le L 1 with hl | hl
   ·rw [show (L - 1).toNat = 0 from by omega, Int.pow_zero, Int.mul_one] at h1
    have := Int.mul_le_mul_of_nonneg_left h1 (Int.le_of_lt (p2' a))
    rw [Int.mul_left_comm, ← Int.pow_add, show a + (1 - L).toNat = b + 1 from by omega, Int.mul_comm A] at this
    exact this
   ·rw [show (1 - L).toNat = 0 from by omega, Int.pow_zero, Int.mul_one] at h1
    have := Int.mul_le_mul_of_nonneg_left h1 (Int.le_of_lt (p2' (b + 1)))
    rw [Int.mul_left_comm, ← Int.pow_add, show b + 1 + (L - 1).toNat = a from by omega, Int.mul_comm D] at this
    exact this
  omega
 ·unfold fD fN
  obtain ⟨A, hA⟩ : ∃ A : Int, (10 : Int) ^ (estE L).toNat = A := ⟨_, rfl⟩
  obtain ⟨D, hD⟩ : ∃ D : Int, (10 : Int) ^ (-(estE L)).toNat = D := ⟨_, rfl⟩
  have hA0 : 0 < A := hA ▸ p10 _
  have hD0 : 0 < D := hD ▸ p10 _
  rw [hA, hD] at h2 ⊢
  have k1 : x * D < 2 ^ (a + 1) * D := Int.mul_lt_mul_of_pos_right ha.2 hD0
  have k2 : 2 ^ b * A ≤ y * A := Int.mul_le_mul_of_nonneg_right hb.1 (Int.le_of_lt hA0)
  have k3 : 2 ^ (a + 1) * D ≤ 18446744073709551616 * (2 ^ b * A) := by
   rcases Int.lt_or_le (L + 1) 0 with hl | hl
   ·rw [show (L + 1).toNat = 0 from by omega, Int.pow_zero, Int.one_mul] at h2
    have := Int.mul_le_mul_of_nonneg_left h2 (Int.le_of_lt (p2' (a + 1)))
    rw [Int.mul_left_comm, ← Int.pow_add, show a + 1 + (-(L + 1)).toNat = b from by omega, Int.mul_assoc, Int.mul_comm A] at this
    exact this
   ·rw [show (-(L + 1)).toNat = 0 from by omega, Int.pow_zero, Int.mul_one] at h2
    have := Int.mul_le_mul_of_nonneg_left h2 (Int.le_of_lt (p2' b))
    rw [← Int.mul_assoc, ← Int.pow_add, show b + (L + 1).toNat = a + 1 from by omega, Int.mul_left_comm] at this
    exact this
  omega
theorem shlY {a : Value} {la : List Int} {x : Int} {k : Nat} (hc : Ma.Cn 18446744073709551616 la x) (hL : la.length ≤ 68719476736) (hb : Ma.blen x + k ≤ 8192) {w : World} (ha : IV w a (ints .u64 la)) :
  CallsV P 52 [a, .int .i64 (k : Int)] w fun r w' => ∃ v ls, r = .tuple #[v, .int .i64 0] ∧ Ma.Cn 18446744073709551616 ls (x * 2 ^ k) ∧ Grow w w' [As.ri 22 .u64 v ls] := by
 rcases Int.lt_or_eq_of_le (hc.nonneg (by omega)) with hx | hx
 ·exact shlZ hc hx hL hb ha
 ·refine (ShlN a la (cnU hc) hL k w ha).mono ?_
  intro r w' h
  have hb0 := Ma.blen_nonneg x
  have e : shlS (nv la) k = (0, 0) := by
   unfold shlS
   rw [show nv la = x from hc.val, if_neg (by omega), if_neg (by omega), if_pos hx.symm]
  rw [e] at h
  rw [← hx, Int.zero_mul]
  exact h
theorem blen_10 (k : Nat) : Ma.blen ((10 : Int) ^ k) ≤ (4 * k + 1 : Nat) := by
 refine (Ma.blen_le_iff (Int.le_of_lt (p10 k)) _).2 ?_
 have h1 : (10 : Int) ^ k ≤ 16 ^ k := by
  induction k with
  | zero => simp
  | succ n ih =>
   rw [Int.pow_succ, Int.pow_succ]
   have := Ma.pow_pos (show (0 : Int) < 16 by omega) n
   omega
 have h2 : (16 : Int) ^ k = 2 ^ (4 * k) := by rw [Int.pow_mul]; rfl
 have h3 : (2 : Int) ^ (4 * k + 1) = 2 ^ (4 * k) * 2 := Int.pow_succ ..
 have h4 := p2_ (4 * k)
 omega
theorem pow10Z (k : Nat) (hk : k ≤ 1200) (w : World) : CallsV P 54 [.int .u64 10, .int .i64 (k : Int)] w fun r w' => ∃ v ls, r = .tuple #[v, .int .i64 0] ∧ Ma.Cn 18446744073709551616 ls (10 ^ k) ∧ Grow w w' [As.ri 22 .u64 v ls] := by
 refine (powN 10 k (by omega) (by omega) w).mono ?_
 intro r w' h
 have hb := blen_10 k
 rw [powS_ok (by omega) (by rw [Int.toNat_natCast]; omega), Int.toNat_natCast] at h
 exact h
theorem mulZ {a b : Value} {la lb : List Int} {x y : Int} (hc : Ma.Cn 18446744073709551616 la x) (hd : Ma.Cn 18446744073709551616 lb y) {m n : Nat} (hx : Ma.blen x ≤ m) (hy : Ma.blen y ≤ n) (hmn : m + n ≤ 8192) {w : World} (ha : IV w a (ints .u64 la)) (hb : IV w b (ints .u64 lb)) :
  CallsV P 55 [a, b] w fun r w' => ∃ v ls, r = .tuple #[v, .int .i64 0] ∧ Ma.Cn 18446744073709551616 ls (x * y) ∧ Grow w w' [As.ri 22 .u64 v ls] := by
 have hm := blen_mul (hc.nonneg (by omega)) (hd.nonneg (by omega)) hx hy
 refine (mulC hc hd (by omega) (by omega) ha hb).mono ?_
 intro r w' h
 rw [if_neg (by omega), if_neg (by omega)] at h
 exact h
theorem cn_lenb {l : List Int} {n : Int} (h : Ma.Cn 18446744073709551616 l n) {k : Nat} (hb : Ma.blen n ≤ k) : 64 * l.length ≤ k + 64 := cn_len h hb
theorem timesF (v : Value) (l : List Int) (x e : Int) (hc : Ma.Cn 18446744073709551616 l (x)) (hx : Ma.blen x ≤ (3000 : Nat)) (he : -1200 ≤ e ∧ e ≤ 1200) (w : World) (hv : IV w v (ints .u64 l)) :
  CallsV P 68 [v, .int .i64 e] w fun r w' => ∃ vn ln vd ld, r = .agg #[vn, vd] ∧ Ma.Cn 18446744073709551616 ln (x * 10 ^ e.toNat) ∧ Ma.Cn 18446744073709551616 ld (10 ^ (-e).toNat) ∧ Grow w w' [As.ri 22 .u64 vd ld, As.ri 22 .u64 vn ln] := by
 refine enterW Tryd.func68 rfl Tryd.ntmps68 rfl ?_
 have hw0 := St.start w
 refine c_seq (c_region ?_)
 refine l_alloc hw0 ta81 rfl rfl (fun b0_0 w1 hw1 => ?_)
 try clear hw0
 refine l_nil (e_then (c_seq (c_region (l_move rfl rfl rfl ?_))))
 refine l_max rfl rfl rfl rfl ?_
 refine l_turn (s := 10) (v' := .int .i64 ((e.toNat : Nat) : Int)) rfl (congrArg (Value.int _) (by omega)) ?_
 refine l_call rfl rfl Tryd.func54 rfl rfl (.cons rfl (.cons rfl .nil)) (pow10Z (e).toNat (by omega) w1) ?_
 rintro _ w2 ⟨vu, lu, rfl, hcu, hG⟩
 have hw2 := hG _ _ _ _ hw1
 try clear hG hw1
 simp only [List.cons_append, List.nil_append] at hw2
 refine l_move rfl rfl rfl (l_extract rfl rfl rfl rfl (l_extract rfl rfl rfl rfl (l_assign rfl rfl rfl (l_assign rfl rfl rfl (l_nil ?_)))))
 refine e_then ?_
 refine c_keep [0, 1, 4, 5] (.cons rfl (.cons rfl (.cons rfl (.cons rfl .nil)))) ?_
 refine c_seq (c_region ?_)
 refine l_buildS rfl rfl pl81 ta81 .nil ?_
 refine l_alloc hw2 ta81 rfl rfl (fun b2_1 w3 hw3 => ?_)
 try clear hw2
 refine l_store_blks hw3 .head (.zero (.zero .nil)) rfl tz81 rfl rfl (by first | (simp [Value.oneCell']; done) | (intro u hu; simp only [List.mem_cons, List.not_mem_nil, or_false] at hu; rcases hu with rfl | rfl <;> first | rfl | assumption)) (fun w4 hw4 => ?_)
 try clear hw3
 refine l_nil (e_then ?_)
 refine c_keep [0, 1, 4, 5, 7] (.cons rfl (.cons rfl (.cons rfl (.cons rfl (.cons rfl .nil))))) ?_
 refine c_seq (c_region (l_move rfl rfl rfl (l_move rfl rfl rfl ?_)))
 refine l_call rfl rfl Tryd.func55 rfl rfl (.cons rfl (.cons rfl .nil)) (mulZ (m := 3000) (n := 4801) hc hcu hx (by have := blen_10 e.toNat; omega) (by omega) (hw4.iarg hv) (hw4.io mem1)) ?_
 rintro _ w5 ⟨vn, ln, rfl, hcn, hG⟩
 have hw5 := hG _ _ _ _ hw4
 try clear hG hw4
 simp only [List.cons_append, List.nil_append] at hw5
 have hone1 := slice_one (hw5.io mem0)
 refine l_move rfl rfl rfl (l_extract rfl rfl rfl rfl (l_extract rfl rfl rfl rfl (l_field fo81_0 rfl rfl rfl ?_)))
 refine l_store_blk hw5 (.tail .head) (by repeat (first | exact .zero | apply SetAt.succ)) rfl tz62 rfl rfl (by first | rfl | assumption) (fun w6 hw6 => ?_)
 try clear hw5
 refine l_nil (e_then ?_)
 refine c_keep [1, 4, 7] (.cons rfl (.cons rfl (.cons rfl .nil))) ?_
 refine c_seq (c_region (l_move rfl rfl rfl ?_))
 refine l_neg rfl rfl rfl (w_i64 (by omega)) ?_
 refine l_max rfl rfl rfl rfl ?_
 refine l_turn (s := 25) (v' := .int .i64 (((-e).toNat : Nat) : Int)) rfl (congrArg (Value.int _) (by omega)) ?_
 refine l_call rfl rfl Tryd.func54 rfl rfl (.cons rfl (.cons rfl .nil)) (pow10Z (-e).toNat (by omega) w6) ?_
 rintro _ w7 ⟨vd, ld, rfl, hcd, hG⟩
 have hw7 := hG _ _ _ _ hw6
 try clear hG hw6
 simp only [List.cons_append, List.nil_append] at hw7
 have hone2 := slice_one (hw7.io mem0)
 refine l_move rfl rfl rfl (l_extract rfl rfl rfl rfl (l_extract rfl rfl rfl rfl (l_field fo81_1 rfl rfl rfl ?_)))
 refine l_store_blk hw7 (.tail (.tail .head)) (by repeat (first | exact .zero | apply SetAt.succ)) rfl tz62 rfl rfl (by first | rfl | assumption) (fun w8 hw8 => ?_)
 try clear hw7
 refine l_nil (e_then ?_)
 refine c_keep [4, 7] (.cons rfl (.cons rfl .nil)) ?_
 refine c_seq (c_region ?_)
 refine l_load_agg hw8 mem2 rfl rfl Tryd.underlying81 rfl tz81 rfl (.take (.take .nil)) ?_
 refine l_store_blks hw8 (.tail (.tail (.tail (.tail .head)))) (.zero (.zero .nil)) rfl tz81 rfl rfl (by first | (simp [Value.oneCell']; done) | (intro u hu; simp only [List.mem_cons, List.not_mem_nil, or_false] at hu; rcases hu with rfl | rfl <;> first | rfl | assumption)) (fun w9 hw9 => ?_)
 try clear hw8
 refine l_nil (e_then ?_)
 refine c_keep [4] (.cons rfl .nil) ?_
 refine c_ret ?_
 refine e_doneC Tryd.results68 (.cell rfl (load_agg_run hw9 mem4 Tryd.underlying81 rfl tz81 (.take (.take .nil))) .nil) ?_
 refine ⟨_, rfl, ?_⟩
 have hw10 := St.front1 hw9
 try clear hw9
 have hw11 := St.front1 hw10
 try clear hw10
 have hw12 := St.del (.tail (.tail (.tail (.tail .head)))) hw11
 try clear hw11
 have hw13 := St.del (.tail (.tail (.tail .head))) hw12
 try clear hw12
 have hw14 := St.del (.tail (.tail .head)) hw13
 try clear hw13
 exact ⟨_, _, _, _, rfl, hcn, hcd, hw14.grows⟩
def hfS (x y e : Int) : Int := cmpI (2 * (fN x e % fD y e)) (fD y e)
theorem fD_blen {y e : Int} (hy0 : 0 < y) (hy : Ma.blen y ≤ (1200 : Nat)) (he : e ≤ 420) : Ma.blen (fD y e) ≤ (2881 : Nat) := by
 have h1 := blen_10 e.toNat
 exact Int.le_trans (blen_mul (Int.le_of_lt hy0) (Int.le_of_lt (p10 _)) hy h1) (by omega)
theorem fN_blen {x e : Int} (hx0 : 0 ≤ x) (hx : Ma.blen x ≤ (1200 : Nat)) (he : -420 ≤ e) : Ma.blen (fN x e) ≤ (2881 : Nat) := by
 have h1 := blen_10 (-e).toNat
 exact Int.le_trans (blen_mul hx0 (Int.le_of_lt (p10 _)) hx h1) (by omega)
theorem wholeF (vx vy : Value) (lx ly : List Int) (x y : Int) (hcx : Ma.Cn 18446744073709551616 lx (x)) (hcy : Ma.Cn 18446744073709551616 ly (y)) (hx : Ma.blen x ≤ (1200 : Nat)) (hy : Ma.blen y ≤ (1200 : Nat)) (hy0 : 0 < y) (e : Int) (he : -420 ≤ e ∧ e ≤ 420) (w : World) (hvx : IV w vx (ints .u64 lx)) (hvy : IV w vy (ints .u64 ly)) :
  CallsV P 47 [.agg #[vx, vy], .int .i64 e] w fun r w' => r = .tuple #[.int .u64 (fN x e / fD y e % 18446744073709551616), .int .i64 (hfS x y e)] ∧ Grow w w' [] := by
 refine enterW Tryd.func47 rfl Tryd.ntmps47 rfl ?_
 have hw0 := St.start w
 have hx0 := hcx.nonneg (by omega)
 have hD0 := fD_pos hy0 e
 have hN0 := fN_nonneg hx0 e
 have hDb := fD_blen hy0 hy he.2
 have hNb := fN_blen hx0 hx he.1
 have hlx := cn_lenb hcx hx
 have hly := cn_lenb hcy hy
 have hone1 := slice_one hvx
 have hone2 := slice_one hvy
 refine c_seq (c_region ?_)
 refine l_box hw0 rfl rfl rfl (fun b0_0 w1 hw1 => ?_)
 try clear hw0
 refine l_assign rfl rfl rfl (l_assign rfl rfl rfl (l_nil (e_then ?_)))
 refine c_keep [1, 2] (.cons rfl (.cons rfl .nil)) ?_
 refine c_seq (c_region (l_field fo81_0 rfl rfl rfl ?_))
 refine l_load_blk hw1 mem0 rfl rfl Tryd.underlying62 rfl rfl rfl ?_
 refine l_move rfl rfl rfl ?_
 refine l_neg rfl rfl rfl (w_i64 (by omega)) ?_
 refine l_call rfl rfl Tryd.func68 rfl rfl (.cons rfl (.cons rfl .nil)) (timesF vx lx x (0 - e) hcx (by omega) (by omega) w1 (hw1.iarg hvx)) ?_
 rintro _ w2 ⟨vn, ln, vd, ld, rfl, hcn, hcd, hG⟩
 have hw2 := hG _ _ _ _ hw1
 try clear hG hw1
 simp only [List.cons_append, List.nil_append] at hw2
 have hnn := slice_one (hw2.io mem0)
 have hnd := slice_one (hw2.io mem1)
 rw [show (-(0 - e) : Int) = e from by omega] at hcd
 rw [show (0 - e : Int) = -e from by omega] at hcn
 have hcn : Ma.Cn 18446744073709551616 ln (fN x e) := hcn
 have hlln := cn_lenb hcn hNb
 refine l_alloc hw2 ta81 rfl rfl (fun b1_5 w3 hw3 => ?_)
 try clear hw2
 refine l_store_blks hw3 .head (.zero (.zero .nil)) rfl tz81 rfl rfl (by first | (simp [Value.oneCell']; done) | (intro u hu; simp only [List.mem_cons, List.not_mem_nil, or_false] at hu; rcases hu with rfl | rfl <;> first | rfl | assumption)) (fun w4 hw4 => ?_)
 try clear hw3
 refine l_nil (e_then ?_)
 refine c_keep [2, 6] (.cons rfl (.cons rfl .nil)) ?_
 refine c_seq (c_region (l_field fo81_1 rfl rfl rfl ?_))
 refine l_load_blk hw4 mem3 rfl rfl Tryd.underlying62 rfl rfl rfl ?_
 refine l_field fo81_1 rfl rfl rfl ?_
 refine l_load_blk hw4 mem0 rfl rfl Tryd.underlying62 rfl rfl rfl ?_
 refine l_call rfl rfl Tryd.func55 rfl rfl (.cons rfl (.cons rfl .nil)) (mulZ (m := 1200) (n := 1681) hcy hcd hy (by have := blen_10 (e).toNat; omega) (by omega) (hw4.iarg hvy) (hw4.io mem1)) ?_
 rintro _ w5 ⟨vp, lp, rfl, hcp, hG⟩
 have hw5 := hG _ _ _ _ hw4
 try clear hG hw4
 simp only [List.cons_append, List.nil_append] at hw5
 have hcp : Ma.Cn 18446744073709551616 lp (fD y e) := hcp
 have hllp := cn_lenb hcp hDb
 refine l_move rfl rfl rfl (l_extract rfl rfl rfl rfl (l_extract rfl rfl rfl rfl (l_assign rfl rfl rfl (l_assign rfl rfl rfl (l_nil ?_)))))
 refine e_then ?_
 refine c_keep [6, 7] (.cons rfl (.cons rfl .nil)) ?_
 refine c_seq (c_region (l_field fo81_0 rfl rfl rfl ?_))
 refine l_load_blk hw5 mem1 rfl rfl Tryd.underlying62 rfl rfl rfl ?_
 refine l_move rfl rfl rfl ?_
 refine l_call rfl rfl Tryd.func56 rfl rfl (.cons rfl (.cons rfl .nil)) (divZ hcn hcp (by omega) (by omega) (by omega) (by omega) (by omega) (hw5.io mem3) (hw5.io mem0)) ?_
 rintro _ w6 ⟨vq, vr, lq, lr, rfl, hcq, hcr, hG⟩
 have hw6 := hG _ _ _ _ hw5
 try clear hG hw5
 simp only [List.cons_append, List.nil_append] at hw6
 have hrb := Int.emod_lt_of_pos (fN x e) hD0
 have hr0 := Int.emod_nonneg (fN x e) (show fD y e ≠ 0 by omega)
 have hblr := Ma.blen_mono hr0 (Int.le_of_lt hrb)
 have hllr := cn_lenb hcr (k := 2881) (by omega)
 refine l_move rfl rfl rfl (l_extract rfl rfl rfl rfl (l_extract rfl rfl rfl rfl (l_extract rfl rfl rfl rfl (l_assign rfl rfl rfl (l_assign rfl rfl rfl ?_)))))
 refine l_assign rfl rfl rfl (l_nil (e_then ?_))
 refine c_keep [7, 9, 10] (.cons rfl (.cons rfl (.cons rfl .nil))) ?_
 refine c_seq (c_region (l_move rfl rfl rfl ?_))
 refine l_call rfl rfl Tryd.func52 rfl rfl (.cons rfl (.cons rfl .nil)) (shlY (k := 1) hcr (by omega) (by omega) (hw6.io mem1)) ?_
 rintro _ w7 ⟨vs, ls, rfl, hcs, hG⟩
 have hw7 := hG _ _ _ _ hw6
 try clear hG hw6
 simp only [List.cons_append, List.nil_append] at hw7
 have hcs2 : Ma.Cn 18446744073709551616 ls (2 * (fN x e % fD y e)) := by
  have := hcs
  rw [show fN x e % fD y e * 2 ^ 1 = 2 * (fN x e % fD y e) from by omega] at this
  exact this
 have hblq : Ma.blen (2 * (fN x e % fD y e)) ≤ (2883 : Nat) := by
  have := blen_mul (x := fN x e % fD y e) (y := 2) hr0 (by omega) (m := 2881) (n := 2) (by omega) (by decide)
  rw [Int.mul_comm] at this
  exact this
 have hlls := cn_lenb hcs2 (k := 2883) (by omega)
 refine l_move rfl rfl rfl (l_extract rfl rfl rfl rfl (l_extract rfl rfl rfl rfl (l_assign rfl rfl rfl (l_nil (e_then ?_)))))
 refine c_keep [7, 9, 10] (.cons rfl (.cons rfl (.cons rfl .nil))) ?_
 refine c_seq (c_seq (c_region (l_move rfl rfl rfl ?_)))
 refine v_leni rfl rfl Tryd.underlying62 rfl (by first | exact hw7.io mem0 | exact hw7.io mem1 | exact hw7.io mem2 | exact hw7.io mem3 | exact hw7.ibl mem4 | exact hw7.io mem5 | exact hw7.io mem6 | exact hw7.ibl mem7 | exact hw7.iarg hvx | exact hw7.iarg hvy | assumption) ?_
 refine l_eql rfl rfl rfl rfl ?_
 refine l_nil (e_then ?_)
 refine c_keep [7, 9, 10, 40] (.cons rfl (.cons rfl (.cons rfl (.cons rfl .nil)))) ?_
 first | refine c_cond rfl (fun hc0 => ?_) (fun hc0 => ?_) | refine c_condb rfl (fun hc0 => ?_) (fun hc0 => ?_)
 ·skip
  refine c_seq (c_region (l_move rfl rfl rfl (l_move rfl rfl rfl ?_)))
  refine l_call rfl rfl Tryd.func57 rfl rfl (.cons rfl (.cons rfl .nil)) (cmpN vs vp ls lp (cnU hcs) (cnU hcp) (by omega) (by omega) w7 (hw7.io mem0) (hw7.io mem3)) ?_
  rintro _ w8 ⟨rfl, hG⟩
  have hw8 := hG _ _ _ _ hw7
  try clear hG hw7
  simp only [List.cons_append, List.nil_append] at hw8
  refine l_assign rfl rfl rfl (l_assign rfl rfl rfl (l_nil (e_then ?_)))
  refine c_keep [4, 5] (.cons rfl (.cons rfl .nil)) ?_
  refine c_ret ?_
  refine e_then_ret ?_
  refine e_done2 Tryd.results47 rfl rfl ?_
  refine ⟨_, rfl, ?_⟩
  have hw9 := St.del (.tail (.tail (.tail (.tail (.tail (.tail (.tail .head))))))) hw8
  try clear hw8
  have hw10 := St.del (.tail (.tail (.tail (.tail (.tail (.tail .head)))))) hw9
  try clear hw9
  have hw11 := St.del (.tail (.tail (.tail (.tail (.tail .head))))) hw10
  try clear hw10
  have hw12 := St.del (.tail (.tail (.tail (.tail .head)))) hw11
  try clear hw11
  have hw13 := St.del (.tail (.tail (.tail .head))) hw12
  try clear hw12
  have hw14 := St.del (.tail (.tail .head)) hw13
  try clear hw13
  have hw15 := St.del (.tail .head) hw14
  try clear hw14
  have hw16 := St.del .head hw15
  try clear hw15
  have hlq0 : lq = [] := List.eq_nil_of_length_eq_zero (by omega)
  have hq0 : fN x e / fD y e = 0 := by
   rw [← hcq.val, hlq0]
   rfl
  refine ⟨?_, hw16.grows⟩
  unfold hfS
  rw [hq0, ← hcs2.val, ← hcp.val]
  all_goals rfl
 ·skip
  refine c_skip (e_then ?_)
  refine c_keep [7, 9, 10] (.cons rfl (.cons rfl (.cons rfl .nil))) ?_
  refine c_seq ?_
  have hw17 := hw7.drewn
  try clear hw7
  have hUq := cnU hcq
  have hq1 : 0 < lq.length := by omega
  obtain ⟨A7, c7, hvq7⟩ := (hw17.io mem1).lies (by simp; omega)
  refine c_any (n := 8) [false, false, false, false, false, false, false, false] (fun wS => IS wS .u64 vq lq) (by kernel_rfl) rfl rfl ?_
  apply a_take (L' := [true, false, false, false, false, false, false, false]) 0 rfl (by kernel_rfl) (by kernel_rfl) (by kernel_rfl) rfl rfl rfl rfl rfl (hw17.io mem1)
  ·intro wS sS
   refine l_move rfl rfl rfl (l_nil ?_)
   exact e_got rfl
  apply a_take (L' := [true, true, false, false, false, false, false, false]) 1 rfl (by kernel_rfl) (by kernel_rfl) (by kernel_rfl) rfl rfl rfl rfl rfl (hw17.io mem1)
  ·intro wS sS
   refine v_addrx (j := 0) rfl rfl Tryd.underlying62 tz22 rfl rfl hvq7 (by first | rfl | omega) (by first | omega | (simp; done) | (simp; omega)) ?_
   refine l_nil ?_
   exact e_got rfl
  apply a_take (L' := [true, true, true, false, false, false, false, false]) 2 rfl (by kernel_rfl) (by kernel_rfl) (by kernel_rfl) rfl rfl rfl rfl rfl (hw17.io mem1)
  ·intro wS sS
   refine v_loadi rfl rfl Tryd.underlying22 rfl hvq7 (by first | exact sS | exact hw17.io mem0 | exact hw17.io mem1 | exact hw17.io mem2 | exact hw17.io mem3 | exact hw17.ibl mem4 | exact hw17.io mem5 | exact hw17.io mem6 | exact hw17.ibl mem7 | exact hw17.iarg hvx | exact hw17.iarg hvy | assumption) (by assumption) (by first | omega | (simp; done) | (simp; omega)) (fun hb7_2 => ?_)
   refine l_nil ?_
   exact e_got rfl
  apply a_take (L' := [true, true, true, true, false, false, false, false]) 3 rfl (by kernel_rfl) (by kernel_rfl) (by kernel_rfl) rfl rfl rfl rfl rfl (hw17.io mem1)
  ·intro wS sS
   refine l_move rfl rfl rfl (l_nil ?_)
   exact e_got rfl
  apply a_take (L' := [true, true, true, true, true, false, false, false]) 4 rfl (by kernel_rfl) (by kernel_rfl) (by kernel_rfl) rfl rfl rfl rfl rfl (hw17.io mem1)
  ·intro wS sS
   refine l_move rfl rfl rfl (l_nil ?_)
   exact e_got rfl
  refine a_one (L' := [true, true, true, true, true, true, false, false]) 5 (by kernel_rfl) rfl rfl ?_
  refine l_call rfl rfl Tryd.func57 rfl rfl (.cons rfl (.cons rfl .nil)) (cmpN vs vp ls lp (cnU hcs) (cnU hcp) (by omega) (by omega) w7.drew (hw17.io mem0) (hw17.io mem3)) ?_
  rintro _ w18 ⟨rfl, hG⟩
  have hw18 := hG _ _ _ _ hw17
  try clear hG hw17
  simp only [List.cons_append, List.nil_append] at hw18
  refine l_nil ?_
  refine e_any (hw18.io mem1) ?_
  apply a_take (L' := [true, true, true, true, true, true, true, false]) 6 rfl (by kernel_rfl) (by kernel_rfl) (by kernel_rfl) rfl rfl rfl rfl rfl (hw18.io mem1)
  ·intro wS sS
   refine l_assign rfl rfl rfl (l_nil ?_)
   exact e_got rfl
  apply a_take (L' := [true, true, true, true, true, true, true, true]) 7 rfl (by kernel_rfl) (by kernel_rfl) (by kernel_rfl) rfl rfl rfl rfl rfl (hw18.io mem1)
  ·intro wS sS
   refine l_assign rfl rfl rfl (l_nil ?_)
   exact e_got rfl
  refine a_done (by kernel_rfl) ?_
  refine e_then ?_
  refine c_keep [4, 5] (.cons rfl (.cons rfl .nil)) ?_
  refine c_ret ?_
  refine e_done2 Tryd.results47 rfl rfl ?_
  refine ⟨_, rfl, ?_⟩
  have hw19 := St.del (.tail (.tail (.tail (.tail (.tail (.tail (.tail .head))))))) hw18
  try clear hw18
  have hw20 := St.del (.tail (.tail (.tail (.tail (.tail (.tail .head)))))) hw19
  try clear hw19
  have hw21 := St.del (.tail (.tail (.tail (.tail (.tail .head))))) hw20
  try clear hw20
  have hw22 := St.del (.tail (.tail (.tail (.tail .head)))) hw21
  try clear hw21
  have hw23 := St.del (.tail (.tail (.tail .head))) hw22
  try clear hw22
  have hw24 := St.del (.tail (.tail .head)) hw23
  try clear hw23
  have hw25 := St.del (.tail .head) hw24
  try clear hw24
  have hw26 := St.del .head hw25
  try clear hw25
  refine ⟨?_, hw26.grows⟩
  have hlim := limb_of (cnU hcq) 0
  rw [Int.pow_zero, Int.ediv_one, show nv lq = _ from hcq.val] at hlim
  unfold hfS
  rw [← hlim, ← hcs2.val, ← hcp.val]
theorem spl_any {k a : Int} {d : Kd} (hk : kd k = some d) (ha : 0 ≤ a ∧ a < 2 * d.S) (hf : a % d.S < d.I) : splF k a = (decide (d.S ≤ a), splM d (a % d.S), splE d (a % d.S), 0) := by
 have hbd := d.bd
 have hm := mod_S d ha
 have he : a % d.S % d.S = a % d.S := Int.emod_eq_of_lt (by omega) (by omega)
 unfold splF
 rw [ofk_ok hk (chk_some hk ha.2), if_neg (by omega)]
 unfold splM splE
 rw [he]
theorem sg_back {d : Kd} {a : Int} (ha : 0 ≤ a ∧ a < 2 * d.S) (ex : Bool) : sgR d (decide (d.S ≤ a)) (a % d.S, ex, 0) = (a, ex, 0) := by
 rw [sgR_ok rfl]
 have hm := mod_S d ha
 by_cases h : d.S ≤ a
 ·rw [decide_eq_true h, if_pos rfl]
  simp only
  rw [show a % d.S + d.S = a by omega]
 ·rw [decide_eq_false h, if_neg (by decide)]
  simp only
  rw [show a % d.S = a by omega]
theorem join_back {k a : Int} {d : Kd} (hk : kd k = some d) (ha : 0 ≤ a ∧ a < 2 * d.S) (hf : a % d.S < d.I) : JoinR k (decide (d.S ≤ a)) (splM d (a % d.S)) (splE d (a % d.S)) (a, true, 0) := by
 have hbd := d.bd
 have hm := mod_S d ha
 have hb : 0 ≤ a % d.S ∧ a % d.S < d.I := by omega
 have hfs := fv_spl d hb
 rw [← sg_back ha true]
 refine JoinR.is hk ?_
 rw [show max (min (splE d (a % d.S)) 2000) (-2000) = splE d (a % d.S) by omega]
 refine near_exact (p2 _) ⟨hb.1, by omega⟩ ?_
 rw [hfs.2.2.2.2.1, Int.mul_assoc, ← Int.pow_add, Int.mul_assoc, ← Int.pow_add]
 congr 2
 omega
theorem top_exists {x y e : Int} (hy : 0 < y) : ∀ (n : Nat), fD y e ≤ fN x e → fN x e < 10 ^ n * fD y e → ∃ t, TopR x y t ∧ e ≤ t ∧ t < e + n
 | 0, h1, h2 => by simp at h2; omega
 | n + 1, h1, h2 => by
  rcases Int.lt_or_le (fN x (e + 1)) (fD y (e + 1)) with h3 | h3
  ·exact ⟨e, ⟨h1, h3⟩, by omega, by omega⟩
  ·have h4 : fN x (e + 1) < 10 ^ n * fD y (e + 1) := by
    rcases Int.lt_or_le (fN x (e + 1)) (10 ^ n * fD y (e + 1)) with h5 | h5
    ·exact h5
    ·have := (fstepc x y e (10 ^ n)).1 h5
     rw [Int.pow_succ] at h2
     omega
   obtain ⟨t, ht, h5, h6⟩ := top_exists hy n h3 h4
   exact ⟨t, ht, by omega, by omega⟩
theorem TopR.ge {x y t e : Int} (hy : 0 < y) (h : TopR x y t) (he : fD y e ≤ fN x e) : e ≤ t := by
 rcases Int.lt_or_le t e with h1 | h1
 ·exfalso
  have h2 := fmono hy (e - (t + 1)).toNat 1 (by omega) (by rw [Int.one_mul]; exact h.2)
  rw [show t + 1 + ((e - (t + 1)).toNat : Int) = e from by omega, Int.one_mul] at h2
  omega
 ·exact h1
theorem TopR.le {x y t e : Int} (hy : 0 < y) (h : TopR x y t) (he : e ≤ t) : fD y e ≤ fN x e := by
 have h1 := (fstepn x y e 1 (t - e).toNat).1 (by rw [show e + ((t - e).toNat : Int) = t from by omega, Int.one_mul]; exact h.1)
 have h2 := p10 (t - e).toNat
 have h3 := fD_pos hy e
 have h4 : 1 * fD y e ≤ 1 * 10 ^ (t - e).toNat * fD y e := Int.mul_le_mul_of_nonneg_right (by omega) (Int.le_of_lt h3)
 omega
theorem blen_bd {x : Int} (h : 0 < x) : 2 ^ (Ma.blen x - 1).toNat ≤ x ∧ x < 2 ^ ((Ma.blen x - 1).toNat + 1) := by
 have h1 := Ma.blen_pos h
 refine ⟨?_, (Ma.blen_le_iff (by omega) _).1 (by omega)⟩
 rcases Int.lt_or_le x (2 ^ (Ma.blen x - 1).toNat) with h2 | h2
 ·have := (Ma.blen_le_iff (by omega) _).2 h2
  omega
 ·exact h2
def fX (d : Kd) (b : Int) : Int := splM d b * 2 ^ (splE d b).toNat
def fY (d : Kd) (b : Int) : Int := 2 ^ (-(splE d b)).toNat
theorem fY_pos (d : Kd) (b : Int) : 0 < fY d b := p2_ _
structure Flt (d : Kd) (b x y : Int) : Prop where
 hx : 0 < x
 hy : 0 < y
 bx : Ma.blen x ≤ (1025 : Nat)
 by' : Ma.blen y ≤ (1075 : Nat)
 sx : Ma.blen x - Ma.blen y ≤ 1023
 hv : fv d.H b * y = x * 2 ^ d.l
theorem splM_pos {d : Kd} {b : Int} (hb : 0 < b ∧ b < d.I) : 0 < splM d b := by
 have hbd := d.bd
 have hm : b % d.S = b := Int.emod_eq_of_lt (by omega) (by omega)
 have := Int.emod_nonneg b (show d.H ≠ 0 by omega)
 unfold splM
 rw [hm]
 split <;> omega
theorem spl_size {d : Kd} {b : Int} (hb : 0 < b ∧ b < d.I) : splM d b < 9007199254740992 ∧ -1074 ≤ splE d b ∧ splE d b ≤ 971 := by
 have hbd := d.bd
 have hm : b % d.S = b := Int.emod_eq_of_lt (by omega) (by omega)
 have hq := quo_H d (show 0 ≤ b by omega) hb.2
 have h1 := Int.emod_lt_of_pos b hbd.1
 have h3 := Int.emod_add_mul_ediv b d.H
 unfold splM splE
 rw [hm]
 cases d
 ·have h2 : b < 2139095040 := hb.2
  have h4 : (Kd.f32).H = 8388608 := rfl
  have h5 : (Kd.f32).l = 149 := rfl
  rw [h4] at *
  rw [h5]
  split <;> omega
 ·have h2 : b < 9218868437227405312 := hb.2
  have h4 : (Kd.f64).H = 4503599627370496 := rfl
  have h5 : (Kd.f64).l = 1074 := rfl
  rw [h4] at *
  rw [h5]
  split <;> omega
theorem flt_of {d : Kd} {b : Int} (hb : 0 < b ∧ b < d.I) : Flt d b (fX d b) (fY d b) := by
 have hs := spl_size hb
 have hM := splM_pos hb
 have hx : 0 < fX d b := Int.mul_pos hM (p2_ _)
 have hM2 : Ma.blen (splM d b) ≤ (53 : Nat) := (Ma.blen_le_iff (by omega) 53).2 (by omega)
 have ex : Ma.blen (fX d b) = Ma.blen (splM d b) + (splE d b).toNat := blen_shl hM _
 have ey : Ma.blen (fY d b) = 1 + (-(splE d b)).toNat := by
  have := blen_shl (show (0 : Int) < 1 by omega) (-(splE d b)).toNat
  rw [Int.one_mul] at this
  rw [fY, this]
  rfl
 have h1 := Ma.blen_pos hM
 exact ⟨hx, fY_pos d b, by omega, by omega, by omega, val_frac d ⟨by omega, hb.2⟩⟩
theorem flt_top {d : Kd} {b x y : Int} (h : Flt d b x y) : ∃ t, TopR x y t ∧ estE (Ma.blen x - Ma.blen y) ≤ t ∧ -400 ≤ estE (Ma.blen x - Ma.blen y) ∧ t ≤ 360 ∧ fN x (estE (Ma.blen x - Ma.blen y)) < 18446744073709551616 * fD y (estE (Ma.blen x - Ma.blen y)) := by
 have h1 := Ma.blen_pos h.hx
 have h2 := Ma.blen_pos h.hy
 have h3 := h.bx
 have h4 := h.by'
 have h5 := h.sx
 have h6 := est_ok (blen_bd h.hx) (blen_bd h.hy) (L := Ma.blen x - Ma.blen y) (by omega) (by omega)
 have h7 := fD_pos h.hy (estE (Ma.blen x - Ma.blen y))
 obtain ⟨t, ht, h8, h9⟩ := top_exists (e := estE (Ma.blen x - Ma.blen y)) h.hy 20 h6.1 (Int.lt_of_lt_of_le h6.2.1 (Int.mul_le_mul_of_nonneg_right (by decide) (Int.le_of_lt h7)))
 have h10 : estE (Ma.blen x - Ma.blen y) ≤ 310 := by
  unfold estE
  have := Int.tdiv_le_tdiv (a := (Ma.blen x - Ma.blen y) * 30103) (b := 1023 * 30103) (c := 100000) (by omega) (by omega)
  have e : ((1023 : Int) * 30103).tdiv 100000 = 307 := by decide
  omega
 exact ⟨t, ht, h8, h6.2.2.1, by omega, h6.2.1⟩
def rdQ (d : Kd) (b m e : Int) : Prop := m ≠ 0 ∧ e ≤ 400 ∧ -420 ≤ e ∧ rdP d b m e
instance (d : Kd) (b m e : Int) : Decidable (rdQ d b m e) := by unfold rdQ; infer_instance
theorem rd_round {k : Int} {d : Kd} {b m e : Int} {x y : Int} {res : Int × Bool × Int} (hk : kd k = some d) (hb : 0 < b ∧ b < d.I) (ex : x = m * 10 ^ e.toNat) (ey : y = 10 ^ (-e).toNat) (hx : Ma.blen x ≤ 8192) (hy : Ma.blen y ≤ 8192) (h : RoundR k false x y res) : (res.2.2 = 0 ∧ res.1 = b) ↔ rdP d b m e := by
 have hD := p10 (-e).toNat
 unfold RoundR at h
 rw [hk] at h
 simp only at h
 rw [if_neg (by omega), if_neg (by omega)] at h
 obtain ⟨t, ht, rfl⟩ := h
 rw [ex, ey] at ht
 rw [rdP_iff hb ht]
 unfold sgR
 by_cases h0 : t.2.2 = 0
 ·rw [if_pos h0]
  simp [h0]
 ·rw [if_neg h0]
  simp [h0]
def ofE (k b : Int) : Int := if (clsF k b).2 = 0 then (if (clsF k b).1 = 2 ∨ (clsF k b).1 = 3 then 0 else 100) else (clsF k b).2
theorem ofE_bad {k b : Int} (h : ¬ (clsF k b).2 = 0) : ofE k b = (clsF k b).2 := if_neg h
theorem ofE_none {k b : Int} (h : (clsF k b).2 = 0) (h2 : ¬ ((clsF k b).1 = 2 ∨ (clsF k b).1 = 3)) : ofE k b = 100 := by unfold ofE; rw [if_pos h, if_neg h2]
theorem ofE_ok {k b : Int} (h : (clsF k b).2 = 0) (h2 : (clsF k b).1 = 2 ∨ (clsF k b).1 = 3) : ofE k b = 0 := by unfold ofE; rw [if_pos h, if_pos h2]
theorem clsF_ok {k b : Int} (hb : 0 ≤ b ∧ b ≤ 18446744073709551615) (h : (clsF k b).2 = 0) : ∃ d, kd k = some d ∧ b < 2 * d.S ∧ (clsF k b).1 = cls d b := by
 by_cases hc : chk k b = 0
 ·obtain ⟨d, hd, h1⟩ := chk_ok hc hb.2
  exact ⟨d, hd, h1, by unfold clsF; rw [ofk_ok hd hc]⟩
 ·unfold clsF at h
  rw [ofk_bad hc] at h
  exact absurd h hc
theorem cls_23 {d : Kd} {b : Int} (h0 : 0 ≤ b) (h : cls d b = 2 ∨ cls d b = 3) : 0 < b % d.S ∧ b % d.S < d.I := by
 have hbd := d.bd
 have h1 := Int.emod_nonneg b (show d.S ≠ 0 by omega)
 unfold cls at h
 (repeat' split at h) <;> omega
theorem cls_23' {d : Kd} {b : Int} (h : 0 < b % d.S ∧ b % d.S < d.I) : cls d b = 2 ∨ cls d b = 3 := by
 unfold cls
 (repeat' split) <;> omega
theorem ofE_is {k b : Int} {d : Kd} (hk : kd k = some d) (hb : b < 2 * d.S) (h : 0 < b % d.S ∧ b % d.S < d.I) : ofE k b = 0 := by
 have e : clsF k b = (cls d b, 0) := by unfold clsF; rw [ofk_ok hk (chk_some hk hb)]
 exact ofE_ok (by rw [e]) (by rw [e]; exact cls_23' h)
theorem sizeF (vx vy : Value) (lx ly : List Int) (x y : Int) (hcx : Ma.Cn 18446744073709551616 lx (x)) (hcy : Ma.Cn 18446744073709551616 ly (y)) (hx : Ma.blen x ≤ (1100 : Nat)) (hy : Ma.blen y ≤ (1100 : Nat)) (hy0 : 0 < y) (t : Int) (ht : TopR x y t) (hes : fD y (estE (Ma.blen x - Ma.blen y)) ≤ fN x (estE (Ma.blen x - Ma.blen y))) (hlt : fN x (estE (Ma.blen x - Ma.blen y)) < 18446744073709551616 * fD y (estE (Ma.blen x - Ma.blen y))) (hlo : -400 ≤ estE (Ma.blen x - Ma.blen y)) (hhi : t ≤ 400) (w : World) (hvx : IV w vx (ints .u64 lx)) (hvy : IV w vy (ints .u64 ly)) :
  CallsV P 46 [.agg #[vx, vy]] w fun r w' => r = .int .i64 t ∧ Grow w w' [] := by
 refine enterW Tryd.func46 rfl Tryd.ntmps46 rfl ?_
 have hw0 := St.start w
 have hx0 := hcx.nonneg (by omega)
 have hlx := cn_lenb hcx hx
 have hly := cn_lenb hcy hy
 have hone1 := slice_one hvx
 have hone2 := slice_one hvy
 have hbx := Ma.blen_nonneg x
 have hby := Ma.blen_nonneg y
 obtain ⟨L, hL⟩ : ∃ L, L = Ma.blen x - Ma.blen y := ⟨_, rfl⟩
 rw [← hL] at hes hlt hlo
 have htd : ((Ma.blen x - Ma.blen y) * 30103).tdiv 100000 = estE L + 2 := by rw [← hL]; unfold estE; omega
 have het := ht.ge hy0 hes
 refine c_seq (c_region ?_)
 refine l_box hw0 rfl rfl rfl (fun b0_0 w1 hw1 => ?_)
 try clear hw0
 refine l_assign rfl rfl rfl (l_nil (e_then ?_))
 refine c_keep [1] (.cons rfl .nil) ?_
 refine c_seq ?_
 refine c_still (by kernel_rfl) (by kernel_rfl) ?_
 have hw2 := hw1.drewn
 try clear hw1
 refine l_field fo81_0 rfl rfl rfl ?_
 refine l_load_blk hw2 mem0 rfl rfl Tryd.underlying62 rfl rfl rfl ?_
 refine l_callp rfl rfl Tryd.func67 rfl rfl (.cons rfl .nil) (lenZ hcx (by omega) (hw2.iarg hvx)) ?_
 refine l_field fo81_1 rfl rfl rfl ?_
 refine l_load_blk hw2 mem0 rfl rfl Tryd.underlying62 rfl rfl rfl ?_
 refine l_callp rfl rfl Tryd.func67 rfl rfl (.cons rfl .nil) (lenZ hcy (by omega) (hw2.iarg hvy)) ?_
 refine l_sub rfl rfl rfl rfl (w_i64 (by omega)) ?_
 refine l_mul rfl rfl rfl rfl (w_i64 (by omega)) ?_
 refine l_quo rfl rfl rfl rfl (by omega) (show IntKind.i64.wrap (((Ma.blen x - Ma.blen y) * 30103).tdiv 100000) = estE L + 2 by rw [htd]; exact w_i64 (by omega)) ?_
 refine l_assign rfl rfl rfl (l_nil (e_then ?_))
 refine c_keep [1, 3] (.cons rfl (.cons rfl .nil)) ?_
 refine c_seq (c_region (l_move rfl rfl rfl ?_))
 refine l_sub rfl rfl rfl rfl (w_i64 (by omega)) ?_
 refine l_assign rfl rfl rfl (l_nil (e_then ?_))
 refine c_keep [1, 3] (.cons rfl (.cons rfl .nil)) ?_
 refine c_block ?_
 refine c_loopk (ι := Int) (fun (e : Int) => (t + 1 - e).toNat) (fun (e : Int) (w' : World) => St w w.heap.size None' ([As.blk b0_0 81 [vx, vy]]) w' ∧ estE L ≤ e ∧ fD y e ≤ fN x e) (fun (e : Int) => [(3, .int .i64 e)]) [1] (estE L) ?_ (.cons rfl .nil) ?_ ?_
 ·exact ⟨hw2, Int.le_refl _, hes⟩
 ·exact (.cons rfl (by first | rfl | (refine congrArg (Value.int _) ?_; omega)) .nil)
 rintro e w3 ⟨hw3, hle, hge⟩
 show RunC P _ _ _ (_ :: _) _
 refine c_seq (c_block (c_seq (c_region ?_)))
 have hte := ht.ge hy0 hge
 have hD := fD_pos hy0 e
 have hlt2 : fN x e < 18446744073709551616 * fD y e := by
  have := fmono hy0 (e - estE L).toNat 18446744073709551616 (by omega) hlt
  rwa [show estE L + ((e - estE L).toNat : Int) = e from by omega] at this
 have hq0 : 0 ≤ fN x e / fD y e := Int.ediv_nonneg (fN_nonneg hx0 e) (Int.le_of_lt hD)
 have hq1 : fN x e / fD y e < 18446744073709551616 := Int.ediv_lt_of_lt_mul hD hlt2
 refine l_load_agg hw3 mem0 rfl rfl Tryd.underlying81 rfl tz81 rfl (.take (.take .nil)) ?_
 refine l_move rfl rfl rfl ?_
 refine l_call rfl rfl Tryd.func47 rfl rfl (.cons rfl (.cons rfl .nil)) (wholeF vx vy lx ly x y hcx hcy (by omega) (by omega) hy0 e (by omega) w3 (hw3.iarg hvx) (hw3.iarg hvy)) ?_
 rintro _ w4 ⟨rfl, hG⟩
 have hw4 := hG _ _ _ _ hw3
 try clear hG hw3
 simp only [List.cons_append, List.nil_append] at hw4
 refine l_move rfl rfl rfl (l_extract rfl rfl rfl rfl (l_extract rfl rfl rfl rfl (l_assign rfl rfl rfl (l_assign rfl rfl rfl (l_nil ?_)))))
 refine e_then ?_
 refine c_keep [1, 3, 4] (.cons rfl (.cons rfl (.cons rfl .nil))) ?_
 refine c_seq (c_region (l_move rfl rfl rfl ?_))
 refine l_turn (s := 25) (v' := .int .u64 (fN x e / fD y e)) rfl (congrArg (Value.int .u64) (Int.emod_eq_of_lt hq0 hq1)) ?_
 refine l_lss rfl rfl rfl rfl ?_
 refine l_nil (e_then ?_)
 refine c_keep [1, 3, 26] (.cons rfl (.cons rfl (.cons rfl .nil))) ?_
 first | refine c_cond rfl (fun hc0 => ?_) (fun hc0 => ?_) | refine c_condb rfl (fun hc0 => ?_) (fun hc0 => ?_)
 ·skip
  refine c_seq (c_region (l_move rfl rfl rfl (l_assign rfl rfl rfl (l_nil (e_then ?_)))))
  refine c_keep [2] (.cons rfl .nil) ?_
  refine c_ret ?_
  refine e_blk_ret ?_
  refine e_then_ret ?_
  refine e_then_ret ?_
  refine e_blk_ret ?_
  refine e_done1 Tryd.results46 rfl ?_
  refine ⟨_, rfl, ?_⟩
  have hw5 := St.del .head hw4
  try clear hw4
  refine ⟨?_, hw5.grows⟩
  have h10 : fN x (e + 1) < fD y (e + 1) := by
   rcases Int.lt_or_le (fN x (e + 1)) (fD y (e + 1)) with h | h
   ·exact h
   ·have h1 := (fstepc x y e 1).1 (by rw [Int.one_mul]; exact h)
    rw [Int.one_mul] at h1
    have := (Int.le_ediv_iff_mul_le hD).2 h1
    omega
  rw [ht.unique hy0 ⟨hge, h10⟩]
 ·skip
  refine c_skip ?_
  refine e_blk ?_
  refine e_then ?_
  refine c_keep [1, 3] (.cons rfl (.cons rfl .nil)) ?_
  refine c_region (l_move rfl rfl rfl ?_)
  refine l_add rfl rfl rfl rfl (w_i64 (by omega)) ?_
  refine l_assign rfl rfl rfl (l_nil ?_)
  have hge2 : fD y (e + 1) ≤ fN x (e + 1) := by
   have := (fstepc x y e 1).2 (by rw [Int.one_mul]; exact (Int.le_ediv_iff_mul_le hD).1 (by omega))
   rwa [Int.one_mul] at this
  have hte2 := ht.ge hy0 hge2
  refine e_againk (i := (e)) (e + 1) ?_ ?_ (.cons rfl .nil) ?_
  ·first | omega | (simp; omega)
  ·exact ⟨hw4, by omega, hge2⟩
  ·exact (.cons rfl (by first | rfl | (refine congrArg (Value.int _) ?_; omega)) .nil)
theorem ofF (k b : Int) (hb : 0 ≤ b ∧ b ≤ 18446744073709551615) (w : World) :
  CallsV P 45 [.int .i64 k, .int .u64 b] w fun r w' => ∃ vn ln vd ld kk bb e, r = .tuple #[.agg #[vn, vd, .int .i64 (kk), .int .u64 (bb)], .int .i64 e] ∧ e = ofE k b ∧ (e = 0 → ∃ d, kd k = some d ∧ b < 2 * d.S ∧ 0 < b % d.S ∧ b % d.S < d.I ∧ kk = k ∧ bb = b % d.S ∧ Ma.Cn 18446744073709551616 ln (fX d (b % d.S)) ∧ Ma.Cn 18446744073709551616 ld (fY d (b % d.S))) ∧ Grow w w' [As.ri 22 .u64 vd ld, As.ri 22 .u64 vn ln] := by
 refine enterW Tryd.func45 rfl Tryd.ntmps45 rfl ?_
 have hw0 := St.start w
 refine c_seq (c_region ?_)
 refine l_alloc hw0 ta83 rfl rfl (fun b0_0 w1 hw1 => ?_)
 try clear hw0
 refine l_assign rfl rfl rfl (l_nil (e_then ?_))
 refine c_keep [0, 1, 4] (.cons rfl (.cons rfl (.cons rfl .nil))) ?_
 refine c_seq (c_region (l_move rfl rfl rfl (l_move rfl rfl rfl ?_)))
 refine l_call rfl rfl Tryd.func20 rfl rfl (.cons rfl (.cons rfl .nil)) (classB k b hb w1) ?_
 rintro _ w2 ⟨rfl, hG⟩
 have hw2 := hG _ _ _ _ hw1
 try clear hG hw1
 simp only [List.cons_append, List.nil_append] at hw2
 refine l_move rfl rfl rfl (l_extract rfl rfl rfl rfl (l_extract rfl rfl rfl rfl (l_assign rfl rfl rfl (l_assign rfl rfl rfl (l_nil ?_)))))
 refine e_then ?_
 refine c_keep [0, 1, 4, 6, 7] (.cons rfl (.cons rfl (.cons rfl (.cons rfl (.cons rfl .nil))))) ?_
 refine c_seq (c_block (c_seq (c_region (l_move rfl rfl rfl ?_))))
 refine l_neq rfl rfl rfl rfl ?_
 refine l_assign rfl rfl rfl (l_nil (e_then ?_))
 refine c_keep [0, 1, 4, 6, 7, 17] (.cons rfl (.cons rfl (.cons rfl (.cons rfl (.cons rfl (.cons rfl .nil)))))) ?_
 first | refine c_cond rfl (fun hc0 => ?_) (fun hc0 => ?_) | refine c_condb rfl (fun hc0 => ?_) (fun hc0 => ?_)
 ·skip
  refine c_seq (c_region ?_)
  refine l_buildS rfl rfl pl83 ta83 .nil ?_
  refine l_move rfl rfl rfl ?_
  refine l_store_blks hw2 .head (.zero (.zero (.zero (.zero .nil)))) rfl tz83 rfl rfl (by first | (simp [Value.oneCell']; done) | (intro u hu; simp only [List.mem_cons, List.not_mem_nil, or_false] at hu; rcases hu with rfl | rfl | rfl | rfl <;> first | rfl | assumption)) (fun w3 hw3 => ?_)
  try clear hw2
  refine l_assign rfl rfl rfl (l_nil (e_then ?_))
  refine c_keep [4, 5] (.cons rfl (.cons rfl .nil)) ?_
  refine c_ret ?_
  refine e_blk_ret ?_
  refine e_then_ret ?_
  refine e_doneN Tryd.results45 (.cell rfl (load_agg_run hw3 mem0 Tryd.underlying83 rfl tz83 (.take (.take (.take (.take .nil))))) (.tmp rfl .nil)) rfl ?_
  refine ⟨_, rfl, ?_⟩
  have hw4 := St.del .head hw3
  try clear hw3
  refine ⟨_, [], _, [], 0, 0, _, rfl, (ofE_bad hc0).symm, fun h => absurd h (by omega), ((hw4.nil 22).nil 22).grows⟩
 ·skip
  refine c_seq (c_region (l_move rfl rfl rfl ?_))
  refine l_neq rfl rfl rfl rfl ?_
  refine l_move rfl rfl rfl ?_
  apply l_and 2 [0, 1, 4] rfl rfl (.cons rfl (.cons rfl (.cons rfl (.cons rfl .nil)))) rfl rfl (fun _ => rfl) rfl rfl rfl
  ·intro hg4_3
   refine l_move rfl rfl rfl ?_
   refine l_neq rfl rfl rfl rfl ?_
   refine l_nil ?_
   exact e_stays rfl (.cons rfl (congrArg Value.bool (decide_eq_true hg4_3).symm) (.cons rfl rfl (.cons rfl rfl (.cons rfl rfl .nil))))
  refine l_assign rfl rfl rfl (l_nil (e_then ?_))
  refine c_keep [0, 1, 4, 22] (.cons rfl (.cons rfl (.cons rfl (.cons rfl .nil)))) ?_
  first | refine c_cond rfl (fun hc1 => ?_) (fun hc1 => ?_) | refine c_condb rfl (fun hc1 => ?_) (fun hc1 => ?_)
  ·skip
   refine c_seq (c_region ?_)
   refine l_buildS rfl rfl pl83 ta83 .nil ?_
   refine l_store_blks hw2 .head (.zero (.zero (.zero (.zero .nil)))) rfl tz83 rfl rfl (by first | (simp [Value.oneCell']; done) | (intro u hu; simp only [List.mem_cons, List.not_mem_nil, or_false] at hu; rcases hu with rfl | rfl | rfl | rfl <;> first | rfl | assumption)) (fun w5 hw5 => ?_)
   try clear hw2
   refine l_assign rfl rfl rfl (l_nil (e_then ?_))
   refine c_keep [4, 5] (.cons rfl (.cons rfl .nil)) ?_
   refine c_ret ?_
   refine e_blk_ret ?_
   refine e_then_ret ?_
   refine e_doneN Tryd.results45 (.cell rfl (load_agg_run hw5 mem0 Tryd.underlying83 rfl tz83 (.take (.take (.take (.take .nil))))) (.tmp rfl .nil)) rfl ?_
   refine ⟨_, rfl, ?_⟩
   have hw6 := St.del .head hw5
   try clear hw5
   refine ⟨_, [], _, [], 0, 0, _, rfl, (ofE_none (by omega) (by omega)).symm, fun h => absurd h (by omega), ((hw6.nil 22).nil 22).grows⟩
  ·skip
   refine c_skip ?_
   refine e_blk ?_
   refine e_then ?_
   refine c_keep [0, 1, 4] (.cons rfl (.cons rfl (.cons rfl .nil))) ?_
   refine c_seq (c_region ?_)
   have hc02 : (clsF k b).2 = 0 := by omega
   have hc12 : (clsF k b).1 = 2 ∨ (clsF k b).1 = 3 := by omega
   obtain ⟨d, hk, hlt, hcl⟩ := clsF_ok hb hc02
   have hb2 : 0 ≤ b ∧ b < 2 * d.S := ⟨hb.1, hlt⟩
   have hfin := cls_23 hb.1 (hcl ▸ hc12)
   have hspl := spl_any hk hb2 hfin.2
   have hss := spl_size hfin
   have hsp0 := splM_pos hfin
   have hbd := d.bd
   have hMb : Ma.blen (splM d (b % d.S)) ≤ (53 : Nat) := (Ma.blen_le_iff (by omega) 53).2 (by omega)
   have hjb := join_back hk (a := b % d.S) (by omega) (by rw [Int.emod_emod_of_dvd _ (Int.dvd_refl _)]; exact hfin.2)
   rw [Int.emod_emod_of_dvd _ (Int.dvd_refl _), decide_eq_false (by omega)] at hjb
   refine l_move rfl rfl rfl (l_move rfl rfl rfl ?_)
   refine l_call rfl rfl Tryd.func8 rfl rfl (.cons rfl (.cons rfl .nil)) (splitB k b hb w2) ?_
   rintro _ w7 ⟨rfl, hG⟩
   have hw7 := hG _ _ _ _ hw2
   try clear hG hw2
   simp only [List.cons_append, List.nil_append] at hw7
   rw [hspl]
   refine l_move rfl rfl rfl (l_extract rfl rfl rfl rfl (l_extract rfl rfl rfl rfl ?_))
   refine l_alloc hw7 ta30 rfl rfl (fun b6_6 w8 hw8 => ?_)
   try clear hw7
   refine l_store_blks hw8 .head (.zero (.zero (.zero .nil))) rfl tz30 rfl rfl (by first | (simp [Value.oneCell']; done) | (intro u hu; simp only [List.mem_cons, List.not_mem_nil, or_false] at hu; rcases hu with rfl | rfl | rfl <;> first | rfl | assumption)) (fun w9 hw9 => ?_)
   try clear hw8
   refine l_assign rfl rfl rfl (l_nil (e_then ?_))
   refine c_keep [0, 4, 8] (.cons rfl (.cons rfl (.cons rfl .nil))) ?_
   refine c_seq (c_region (l_field fo30_0 rfl rfl rfl ?_))
   refine l_store_blk hw9 .head (by repeat (first | exact .zero | apply SetAt.succ)) rfl tz4 rfl rfl (by first | rfl | assumption) (fun w10 hw10 => ?_)
   try clear hw9
   refine l_nil (e_then ?_)
   refine c_keep [0, 4, 8] (.cons rfl (.cons rfl (.cons rfl .nil))) ?_
   refine c_seq (c_region (l_move rfl rfl rfl ?_))
   refine l_buildS rfl rfl pl83 ta83 (.one rfl rfl (by first | rfl | assumption) (.succ (.succ .zero)) .nil) ?_
   refine l_alloc hw10 ta83 rfl rfl (fun b8_2 w11 hw11 => ?_)
   try clear hw10
   refine l_store_blks hw11 .head (.zero (.zero (.zero (.zero .nil)))) rfl tz83 rfl rfl (by first | (simp [Value.oneCell']; done) | (intro u hu; simp only [List.mem_cons, List.not_mem_nil, or_false] at hu; rcases hu with rfl | rfl | rfl | rfl <;> first | rfl | assumption)) (fun w12 hw12 => ?_)
   try clear hw11
   refine l_nil (e_then ?_)
   refine c_keep [0, 4, 8, 10] (.cons rfl (.cons rfl (.cons rfl (.cons rfl .nil)))) ?_
   refine c_seq (c_region (l_move rfl rfl rfl ?_))
   refine l_load_agg hw12 mem1 rfl rfl Tryd.underlying30 rfl tz30 rfl (.take (.take (.take .nil))) ?_
   refine l_call rfl rfl Tryd.func66 rfl rfl (.cons rfl (.cons rfl .nil)) (joinB k false (splM d (b % d.S)) (splE d (b % d.S)) (by omega) (by omega) w12) ?_
   rintro _ w13 ⟨res, rfl, hJ, hG⟩
   have hw13 := hG _ _ _ _ hw12
   try clear hG hw12
   simp only [List.cons_append, List.nil_append] at hw13
   obtain rfl := hJ.unique hjb
   refine l_move rfl rfl rfl (l_extract rfl rfl rfl rfl (l_extract rfl rfl rfl rfl (l_extract rfl rfl rfl rfl (l_field fo83_2 rfl rfl rfl ?_))))
   refine l_store_blk hw13 .head (by repeat (first | exact .zero | apply SetAt.succ)) rfl tz22 rfl rfl (by first | rfl | assumption) (fun w14 hw14 => ?_)
   try clear hw13
   refine l_nil (e_then ?_)
   refine c_keep [4, 8, 10] (.cons rfl (.cons rfl (.cons rfl .nil))) ?_
   refine c_seq ?_
   have hw15 := hw14.drewn
   try clear hw14
   refine c_any (n := 13) [false, false, false, false, false, false, false, false, false, false, false, false, false] (fun wS => (As.blk b6_6 30 [.bool false, .int .u64 (splM d (b % d.S)), .int .i64 (splE d (b % d.S))]).ok wS) (by kernel_rfl) rfl rfl ?_
   apply a_take (L' := [true, false, false, false, false, false, false, false, false, false, false, false, false]) 0 rfl (by kernel_rfl) (by kernel_rfl) (by kernel_rfl) rfl rfl rfl rfl rfl (hw15.ok mem1)
   ·intro wS sS
    refine l_field fo30_1 rfl rfl rfl (l_nil ?_)
    exact e_got rfl
   apply a_take (L' := [true, true, false, false, false, false, false, false, false, false, false, false, false]) 1 rfl (by kernel_rfl) (by kernel_rfl) (by kernel_rfl) rfl rfl rfl rfl rfl (hw15.ok mem1)
   ·intro wS sS
    refine l_load_blk (blk_st sS) mem0 rfl rfl Tryd.underlying22 rfl rfl rfl ?_
    refine l_nil ?_
    exact e_got rfl
   apply a_take (L' := [true, true, false, true, false, false, false, false, false, false, false, false, false]) 3 rfl (by kernel_rfl) (by kernel_rfl) (by kernel_rfl) rfl rfl rfl rfl rfl (hw15.ok mem1)
   ·intro wS sS
    refine l_field fo30_2 rfl rfl rfl (l_nil ?_)
    exact e_got rfl
   apply a_take (L' := [true, true, false, true, true, false, false, false, false, false, false, false, false]) 4 rfl (by kernel_rfl) (by kernel_rfl) (by kernel_rfl) rfl rfl rfl rfl rfl (hw15.ok mem1)
   ·intro wS sS
    refine l_load_blk (blk_st sS) mem0 rfl rfl Tryd.underlying3 rfl rfl rfl ?_
    refine l_nil ?_
    exact e_got rfl
   refine a_two (L' := [true, true, true, true, true, false, false, false, false, false, false, false, false]) (L'' := [true, true, false, true, true, true, false, false, false, false, false, false, false]) 2 5 (by kernel_rfl) rfl rfl rfl rfl ?_ ?_
   ·skip
    refine l_call rfl rfl Tryd.func53 rfl rfl (.cons rfl .nil) (ofN (splM d (b % d.S)) (by omega) w14.drew) ?_
    rintro vm w16 ⟨_, lm, rfl, hcm, hG⟩
    have hw16 := hG _ _ _ _ hw15
    try clear hG hw15
    simp only [List.cons_append, List.nil_append] at hw16
    have hlm := cn_lenb hcm hMb
    refine l_nil ?_
    refine e_any (hw16.ok mem2) ?_
    refine a_one (L' := [true, true, true, true, true, true, false, false, false, false, false, false, false]) 5 (by kernel_rfl) rfl rfl ?_
    refine l_max rfl rfl rfl rfl ?_
    refine l_nil ?_
    refine e_any (hw16.ok mem2) ?_
    refine a_one (L' := [true, true, true, true, true, true, true, false, false, false, false, false, false]) 6 (by kernel_rfl) rfl rfl ?_
    refine l_turn (s := 53) (v' := .int .i64 (((splE d (b % d.S)).toNat : Nat) : Int)) rfl (congrArg (Value.int _) (by omega)) ?_
    refine l_call rfl rfl Tryd.func52 rfl rfl (.cons rfl (.cons rfl .nil)) (shlY (k := (splE d (b % d.S)).toNat) hcm (by omega) (by omega) (hw16.io mem0)) ?_
    rintro _ w17 ⟨vn, ln, rfl, hcn, hG⟩
    have hw17 := hG _ _ _ _ hw16
    try clear hG hw16
    simp only [List.cons_append, List.nil_append] at hw17
    have hone1 := slice_one (hw17.io mem0)
    refine l_nil ?_
    refine e_any (hw17.ok mem3) ?_
    apply a_take (L' := [true, true, true, true, true, true, true, true, false, false, false, false, false]) 7 rfl (by kernel_rfl) (by kernel_rfl) (by kernel_rfl) rfl rfl rfl rfl rfl (hw17.ok mem3)
    ·intro wS sS
     refine l_move rfl rfl rfl (l_nil ?_)
     exact e_got rfl
    apply a_take (L' := [true, true, true, true, true, true, true, true, true, false, false, false, false]) 8 rfl (by kernel_rfl) (by kernel_rfl) (by kernel_rfl) rfl rfl rfl rfl rfl (hw17.ok mem3)
    ·intro wS sS
     refine l_extract rfl rfl rfl rfl (l_nil ?_)
     exact e_got rfl
    apply a_take (L' := [true, true, true, true, true, true, true, true, true, true, false, false, false]) 9 rfl (by kernel_rfl) (by kernel_rfl) (by kernel_rfl) rfl rfl rfl rfl rfl (hw17.ok mem3)
    ·intro wS sS
     refine l_extract rfl rfl rfl rfl (l_nil ?_)
     exact e_got rfl
    apply a_take (L' := [true, true, true, true, true, true, true, true, true, true, true, false, false]) 10 rfl (by kernel_rfl) (by kernel_rfl) (by kernel_rfl) rfl rfl rfl rfl rfl (hw17.ok mem3)
    ·intro wS sS
     refine l_field fo83_0 rfl rfl rfl (l_nil ?_)
     exact e_got rfl
    apply a_take (L' := [true, true, true, true, true, true, true, true, true, true, true, true, false]) 11 rfl (by kernel_rfl) (by kernel_rfl) (by kernel_rfl) rfl rfl rfl rfl rfl (hw17.ok mem3)
    ·intro wS sS
     refine l_field fo81_0 rfl rfl rfl (l_nil ?_)
     exact e_got rfl
    refine a_one (L' := [true, true, true, true, true, true, true, true, true, true, true, true, true]) 12 (by kernel_rfl) rfl rfl ?_
    refine l_store_blk hw17 (.tail (.tail .head)) (by repeat (first | exact .zero | apply SetAt.succ)) rfl tz62 rfl rfl (by first | rfl | assumption) (fun w18 hw18 => ?_)
    try clear hw17
    refine l_nil ?_
    refine e_any (hw18.ok mem3) ?_
    refine a_done (by kernel_rfl) ?_
    refine e_then ?_
    refine c_keep [4, 8, 10] (.cons rfl (.cons rfl (.cons rfl .nil))) ?_
    refine c_seq (c_region ?_)
    refine v_lit hw18 rfl rfl Tryd.underlying62 ti22 rfl (.cons rfl (by first | rfl | assumption) .nil) rfl rfl rfl (fun b11_0 w19 hw19 => ?_)
    try clear hw18
    refine l_field fo30_2 rfl rfl rfl ?_
    refine l_load_blk hw19 mem4 rfl rfl Tryd.underlying3 rfl rfl rfl ?_
    refine l_neg rfl rfl rfl (w_i64 (by omega)) ?_
    refine l_max rfl rfl rfl rfl ?_
    refine l_turn (s := 64) (v' := .int .i64 (((-(splE d (b % d.S))).toNat : Nat) : Int)) rfl (congrArg (Value.int _) (by omega)) ?_
    refine l_call rfl rfl Tryd.func52 rfl rfl (.cons rfl (.cons rfl .nil)) (shlY (k := (-(splE d (b % d.S))).toNat) Cn1 (by simp) (by have h1 : Ma.blen 1 = 1 := (by decide); omega) (hw19.ibl mem0)) ?_
    rintro _ w20 ⟨vd, ld, rfl, hcd, hG⟩
    have hw20 := hG _ _ _ _ hw19
    try clear hG hw19
    simp only [List.cons_append, List.nil_append] at hw20
    have hone2 := slice_one (hw20.io mem0)
    refine l_move rfl rfl rfl (l_extract rfl rfl rfl rfl (l_extract rfl rfl rfl rfl (l_field fo83_0 rfl rfl rfl (l_field fo81_1 rfl rfl rfl ?_))))
    refine l_store_blk hw20 (.tail (.tail (.tail (.tail .head)))) (by repeat (first | exact .zero | apply SetAt.succ)) rfl tz62 rfl rfl (by first | rfl | assumption) (fun w21 hw21 => ?_)
    try clear hw20
    refine l_nil (e_then ?_)
    refine c_keep [4, 10] (.cons rfl (.cons rfl .nil)) ?_
    refine c_seq (c_region ?_)
    refine l_load_agg hw21 mem4 rfl rfl Tryd.underlying83 rfl tz83 rfl (.take (.take (.take (.take .nil)))) ?_
    refine l_store_blks hw21 (.tail (.tail (.tail (.tail (.tail (.tail .head)))))) (.zero (.zero (.zero (.zero .nil)))) rfl tz83 rfl rfl (by first | (simp [Value.oneCell']; done) | (intro u hu; simp only [List.mem_cons, List.not_mem_nil, or_false] at hu; rcases hu with rfl | rfl | rfl | rfl <;> first | rfl | assumption)) (fun w22 hw22 => ?_)
    try clear hw21
    refine l_assign rfl rfl rfl (l_nil (e_then ?_))
    refine c_keep [4, 5] (.cons rfl (.cons rfl .nil)) ?_
    refine c_ret ?_
    refine e_doneN Tryd.results45 (.cell rfl (load_agg_run hw22 mem6 Tryd.underlying83 rfl tz83 (.take (.take (.take (.take .nil))))) (.tmp rfl .nil)) rfl ?_
    refine ⟨_, rfl, ?_⟩
    have hw23 := St.front2 hw22
    try clear hw22
    have hw24 := St.front1 hw23
    try clear hw23
    have hw25 := St.del (.tail (.tail (.tail (.tail (.tail (.tail .head)))))) hw24
    try clear hw24
    have hw26 := St.del (.tail (.tail (.tail (.tail (.tail .head))))) hw25
    try clear hw25
    have hw27 := St.del (.tail (.tail (.tail (.tail .head)))) hw26
    try clear hw26
    have hw28 := St.del (.tail (.tail (.tail .head))) hw27
    try clear hw27
    have hw29 := St.del (.tail (.tail .head)) hw28
    try clear hw28
    refine ⟨vn, ln, vd, ld, k, b % d.S, 0, rfl, (ofE_ok hc02 hc12).symm, fun _ => ⟨d, hk, hlt, hfin.1, hfin.2, rfl, rfl, hcn, ?_⟩, hw29.grows⟩
    rw [Int.one_mul] at hcd
    exact hcd
   ·skip
    refine l_max rfl rfl rfl rfl ?_
    refine l_nil ?_
    refine e_any (hw15.ok mem1) ?_
    refine a_one (L' := [true, true, true, true, true, true, false, false, false, false, false, false, false]) 2 (by kernel_rfl) rfl rfl ?_
    refine l_call rfl rfl Tryd.func53 rfl rfl (.cons rfl .nil) (ofN (splM d (b % d.S)) (by omega) w14.drew) ?_
    rintro vm w30 ⟨_, lm, rfl, hcm, hG⟩
    have hw30 := hG _ _ _ _ hw15
    try clear hG hw15
    simp only [List.cons_append, List.nil_append] at hw30
    have hlm := cn_lenb hcm hMb
    refine l_nil ?_
    refine e_any (hw30.ok mem2) ?_
    refine a_one (L' := [true, true, true, true, true, true, true, false, false, false, false, false, false]) 6 (by kernel_rfl) rfl rfl ?_
    refine l_turn (s := 53) (v' := .int .i64 (((splE d (b % d.S)).toNat : Nat) : Int)) rfl (congrArg (Value.int _) (by omega)) ?_
    refine l_call rfl rfl Tryd.func52 rfl rfl (.cons rfl (.cons rfl .nil)) (shlY (k := (splE d (b % d.S)).toNat) hcm (by omega) (by omega) (hw30.io mem0)) ?_
    rintro _ w31 ⟨vn, ln, rfl, hcn, hG⟩
    have hw31 := hG _ _ _ _ hw30
    try clear hG hw30
    simp only [List.cons_append, List.nil_append] at hw31
    have hone1 := slice_one (hw31.io mem0)
    refine l_nil ?_
    refine e_any (hw31.ok mem3) ?_
    apply a_take (L' := [true, true, true, true, true, true, true, true, false, false, false, false, false]) 7 rfl (by kernel_rfl) (by kernel_rfl) (by kernel_rfl) rfl rfl rfl rfl rfl (hw31.ok mem3)
    ·intro wS sS
     refine l_move rfl rfl rfl (l_nil ?_)
     exact e_got rfl
    apply a_take (L' := [true, true, true, true, true, true, true, true, true, false, false, false, false]) 8 rfl (by kernel_rfl) (by kernel_rfl) (by kernel_rfl) rfl rfl rfl rfl rfl (hw31.ok mem3)
    ·intro wS sS
     refine l_extract rfl rfl rfl rfl (l_nil ?_)
     exact e_got rfl
    apply a_take (L' := [true, true, true, true, true, true, true, true, true, true, false, false, false]) 9 rfl (by kernel_rfl) (by kernel_rfl) (by kernel_rfl) rfl rfl rfl rfl rfl (hw31.ok mem3)
    ·intro wS sS
     refine l_extract rfl rfl rfl rfl (l_nil ?_)
     exact e_got rfl
    apply a_take (L' := [true, true, true, true, true, true, true, true, true, true, true, false, false]) 10 rfl (by kernel_rfl) (by kernel_rfl) (by kernel_rfl) rfl rfl rfl rfl rfl (hw31.ok mem3)
    ·intro wS sS
     refine l_field fo83_0 rfl rfl rfl (l_nil ?_)
     exact e_got rfl
    apply a_take (L' := [true, true, true, true, true, true, true, true, true, true, true, true, false]) 11 rfl (by kernel_rfl) (by kernel_rfl) (by kernel_rfl) rfl rfl rfl rfl rfl (hw31.ok mem3)
    ·intro wS sS
     refine l_field fo81_0 rfl rfl rfl (l_nil ?_)
     exact e_got rfl
    refine a_one (L' := [true, true, true, true, true, true, true, true, true, true, true, true, true]) 12 (by kernel_rfl) rfl rfl ?_
    refine l_store_blk hw31 (.tail (.tail .head)) (by repeat (first | exact .zero | apply SetAt.succ)) rfl tz62 rfl rfl (by first | rfl | assumption) (fun w32 hw32 => ?_)
    try clear hw31
    refine l_nil ?_
    refine e_any (hw32.ok mem3) ?_
    refine a_done (by kernel_rfl) ?_
    refine e_then ?_
    refine c_keep [4, 8, 10] (.cons rfl (.cons rfl (.cons rfl .nil))) ?_
    refine c_seq (c_region ?_)
    refine v_lit hw32 rfl rfl Tryd.underlying62 ti22 rfl (.cons rfl (by first | rfl | assumption) .nil) rfl rfl rfl (fun b11_0 w33 hw33 => ?_)
    try clear hw32
    refine l_field fo30_2 rfl rfl rfl ?_
    refine l_load_blk hw33 mem4 rfl rfl Tryd.underlying3 rfl rfl rfl ?_
    refine l_neg rfl rfl rfl (w_i64 (by omega)) ?_
    refine l_max rfl rfl rfl rfl ?_
    refine l_turn (s := 64) (v' := .int .i64 (((-(splE d (b % d.S))).toNat : Nat) : Int)) rfl (congrArg (Value.int _) (by omega)) ?_
    refine l_call rfl rfl Tryd.func52 rfl rfl (.cons rfl (.cons rfl .nil)) (shlY (k := (-(splE d (b % d.S))).toNat) Cn1 (by simp) (by have h1 : Ma.blen 1 = 1 := (by decide); omega) (hw33.ibl mem0)) ?_
    rintro _ w34 ⟨vd, ld, rfl, hcd, hG⟩
    have hw34 := hG _ _ _ _ hw33
    try clear hG hw33
    simp only [List.cons_append, List.nil_append] at hw34
    have hone2 := slice_one (hw34.io mem0)
    refine l_move rfl rfl rfl (l_extract rfl rfl rfl rfl (l_extract rfl rfl rfl rfl (l_field fo83_0 rfl rfl rfl (l_field fo81_1 rfl rfl rfl ?_))))
    refine l_store_blk hw34 (.tail (.tail (.tail (.tail .head)))) (by repeat (first | exact .zero | apply SetAt.succ)) rfl tz62 rfl rfl (by first | rfl | assumption) (fun w35 hw35 => ?_)
    try clear hw34
    refine l_nil (e_then ?_)
    refine c_keep [4, 10] (.cons rfl (.cons rfl .nil)) ?_
    refine c_seq (c_region ?_)
    refine l_load_agg hw35 mem4 rfl rfl Tryd.underlying83 rfl tz83 rfl (.take (.take (.take (.take .nil)))) ?_
    refine l_store_blks hw35 (.tail (.tail (.tail (.tail (.tail (.tail .head)))))) (.zero (.zero (.zero (.zero .nil)))) rfl tz83 rfl rfl (by first | (simp [Value.oneCell']; done) | (intro u hu; simp only [List.mem_cons, List.not_mem_nil, or_false] at hu; rcases hu with rfl | rfl | rfl | rfl <;> first | rfl | assumption)) (fun w36 hw36 => ?_)
    try clear hw35
    refine l_assign rfl rfl rfl (l_nil (e_then ?_))
    refine c_keep [4, 5] (.cons rfl (.cons rfl .nil)) ?_
    refine c_ret ?_
    refine e_doneN Tryd.results45 (.cell rfl (load_agg_run hw36 mem6 Tryd.underlying83 rfl tz83 (.take (.take (.take (.take .nil))))) (.tmp rfl .nil)) rfl ?_
    refine ⟨_, rfl, ?_⟩
    have hw37 := St.front2 hw36
    try clear hw36
    have hw38 := St.front1 hw37
    try clear hw37
    have hw39 := St.del (.tail (.tail (.tail (.tail (.tail (.tail .head)))))) hw38
    try clear hw38
    have hw40 := St.del (.tail (.tail (.tail (.tail (.tail .head))))) hw39
    try clear hw39
    have hw41 := St.del (.tail (.tail (.tail (.tail .head)))) hw40
    try clear hw40
    have hw42 := St.del (.tail (.tail (.tail .head))) hw41
    try clear hw41
    have hw43 := St.del (.tail (.tail .head)) hw42
    try clear hw42
    refine ⟨vn, ln, vd, ld, k, b % d.S, 0, rfl, (ofE_ok hc02 hc12).symm, fun _ => ⟨d, hk, hlt, hfin.1, hfin.2, rfl, rfl, hcn, ?_⟩, hw43.grows⟩
    rw [Int.one_mul] at hcd
    exact hcd
theorem readsF (vx vy : Value) (lx ly : List Int) (k : Int) (d : Kd) (hk : kd k = some d) (b man e : Int) (hb : 0 < b ∧ b < d.I) (hm : 0 ≤ man ∧ man ≤ 18446744073709551615) (w : World) (hvx : IV w vx (ints .u64 lx)) (hvy : IV w vy (ints .u64 ly)) :
  CallsV P 48 [.agg #[vx, vy, .int .i64 (k), .int .u64 (b)], .int .u64 man, .int .i64 e] w fun r w' => r = .bool (decide (rdQ d b man e)) ∧ Grow w w' [] := by
 refine enterW Tryd.func48 rfl Tryd.ntmps48 rfl ?_
 have hw0 := St.start w
 have hone1 := slice_one hvx
 have hone2 := slice_one hvy
 have hbd := d.bd
 refine c_seq (c_region ?_)
 refine l_box hw0 rfl rfl rfl (fun b0_0 w1 hw1 => ?_)
 try clear hw0
 refine l_assign rfl rfl rfl (l_nil (e_then ?_))
 refine c_keep [1, 2, 3] (.cons rfl (.cons rfl (.cons rfl .nil))) ?_
 refine c_seq (c_seq (c_region (l_move rfl rfl rfl ?_)))
 refine l_eql rfl rfl rfl rfl ?_
 refine l_move rfl rfl rfl ?_
 apply l_or 2 [1, 2, 3] rfl rfl (.cons rfl (.cons rfl (.cons rfl (.cons rfl .nil)))) rfl rfl (fun _ => rfl) rfl rfl rfl
 ·intro hg1_3
  refine l_move rfl rfl rfl ?_
  refine l_gtr rfl rfl rfl rfl ?_
  refine l_nil ?_
  exact e_stays rfl (.cons rfl (congrArg Value.bool (decide_eq_false hg1_3).symm) (.cons rfl rfl (.cons rfl rfl (.cons rfl rfl .nil))))
 refine l_move rfl rfl rfl ?_
 apply l_or 2 [1, 2, 3] rfl rfl (.cons rfl (.cons rfl (.cons rfl (.cons rfl .nil)))) rfl rfl (fun _ => rfl) rfl rfl rfl
 ·intro hg1_7
  refine l_move rfl rfl rfl ?_
  refine l_lss rfl rfl rfl rfl ?_
  refine l_nil ?_
  exact e_stays rfl (.cons rfl (congrArg Value.bool (decide_eq_false hg1_7).symm) (.cons rfl rfl (.cons rfl rfl (.cons rfl rfl .nil))))
 refine l_nil (e_then ?_)
 refine c_keep [1, 2, 3, 20] (.cons rfl (.cons rfl (.cons rfl (.cons rfl .nil)))) ?_
 first | refine c_cond rfl (fun hc0 => ?_) (fun hc0 => ?_) | refine c_condb rfl (fun hc0 => ?_) (fun hc0 => ?_)
 ·skip
  refine c_seq (c_region (l_assign rfl rfl rfl (l_nil (e_then ?_))))
  refine c_keep [6] (.cons rfl .nil) ?_
  refine c_ret ?_
  refine e_then_ret ?_
  refine e_done1 Tryd.results48 rfl ?_
  refine ⟨_, rfl, ?_⟩
  have hw2 := St.del .head hw1
  try clear hw1
  refine ⟨?_, hw2.grows⟩
  rw [decide_eq_false (fun h => by have h1 := h.1; have h2 := h.2.1; have h3 := h.2.2.1; omega)]
 ·skip
  refine c_skip (e_then ?_)
  refine c_keep [1, 2, 3] (.cons rfl (.cons rfl (.cons rfl .nil))) ?_
  refine c_seq (c_region ?_)
  have hMb : Ma.blen man ≤ (64 : Nat) := (Ma.blen_le_iff (by omega) 64).2 (by omega)
  have h10a := blen_10 e.toNat
  have h10b := blen_10 (-e).toNat
  refine l_move rfl rfl rfl ?_
  refine l_call rfl rfl Tryd.func53 rfl rfl (.cons rfl .nil) (ofN man hm w1) ?_
  rintro vm w3 ⟨_, lm, rfl, hcm, hG⟩
  have hw3 := hG _ _ _ _ hw1
  try clear hG hw1
  simp only [List.cons_append, List.nil_append] at hw3
  refine l_move rfl rfl rfl ?_
  refine l_call rfl rfl Tryd.func68 rfl rfl (.cons rfl (.cons rfl .nil)) (timesF vm lm man e hcm (by omega) (by omega) w3 (hw3.io mem0)) ?_
  rintro _ w4 ⟨vn, ln, vd, ld, rfl, hcn, hcd, hG⟩
  have hw4 := hG _ _ _ _ hw3
  try clear hG hw3
  simp only [List.cons_append, List.nil_append] at hw4
  have hnn := slice_one (hw4.io mem0)
  have hnd := slice_one (hw4.io mem1)
  have hmb := blen_mul hm.1 (Int.le_of_lt (p10 e.toNat)) hMb h10a
  have hln := cn_lenb hcn hmb
  have hld := cn_lenb hcd h10b
  refine l_alloc hw4 ta81 rfl rfl (fun b3_4 w5 hw5 => ?_)
  try clear hw4
  refine l_store_blks hw5 .head (.zero (.zero .nil)) rfl tz81 rfl rfl (by first | (simp [Value.oneCell']; done) | (intro u hu; simp only [List.mem_cons, List.not_mem_nil, or_false] at hu; rcases hu with rfl | rfl <;> first | rfl | assumption)) (fun w6 hw6 => ?_)
  try clear hw5
  refine l_nil (e_then ?_)
  refine c_keep [3, 7] (.cons rfl (.cons rfl .nil)) ?_
  refine c_seq (c_region (l_field fo83_1 rfl rfl rfl ?_))
  refine l_load_blk hw6 mem4 rfl rfl Tryd.underlying3 rfl rfl rfl ?_
  refine l_field fo81_0 rfl rfl rfl ?_
  refine l_load_blk hw6 mem0 rfl rfl Tryd.underlying62 rfl rfl rfl ?_
  refine l_field fo81_1 rfl rfl rfl ?_
  refine l_load_blk hw6 mem0 rfl rfl Tryd.underlying62 rfl rfl rfl ?_
  refine l_call rfl rfl Tryd.func69 rfl rfl (.cons rfl (.cons rfl (.cons rfl (.cons rfl .nil)))) (roundB k false vn vd ln ld (cnU hcn) (cnU hcd) (by omega) (by omega) w6 (hw6.io mem2) (hw6.io mem1)) ?_
  rintro _ w7 ⟨res, rfl, hR, hG⟩
  have hw7 := hG _ _ _ _ hw6
  try clear hG hw6
  simp only [List.cons_append, List.nil_append] at hw7
  have hrr := rd_round hk hb (show nv ln = man * 10 ^ e.toNat from hcn.val) (show nv ld = 10 ^ (-e).toNat from hcd.val) (by rw [show nv ln = _ from hcn.val]; omega) (by rw [show nv ld = _ from hcd.val]; omega) hR
  refine l_move rfl rfl rfl (l_extract rfl rfl rfl rfl (l_extract rfl rfl rfl rfl (l_extract rfl rfl rfl rfl (l_assign rfl rfl rfl (l_assign rfl rfl rfl ?_)))))
  refine l_assign rfl rfl rfl (l_nil (e_then ?_))
  refine c_keep [3, 8, 10] (.cons rfl (.cons rfl (.cons rfl .nil))) ?_
  refine c_seq (c_region (l_move rfl rfl rfl ?_))
  refine l_eql rfl rfl rfl rfl ?_
  refine l_move rfl rfl rfl ?_
  apply l_and 4 [] rfl rfl (.cons rfl .nil) rfl rfl (fun _ => rfl) rfl rfl rfl
  ·intro hg5_3
   refine l_move rfl rfl rfl (l_field fo83_2 rfl rfl rfl ?_)
   refine l_load_blk hw7 mem4 rfl rfl Tryd.underlying22 rfl rfl rfl ?_
   refine l_eql rfl rfl rfl rfl ?_
   refine l_nil ?_
   exact e_stays rfl (.cons rfl (congrArg Value.bool (decide_eq_true hg5_3).symm) .nil)
  refine l_assign rfl rfl rfl (l_nil (e_then ?_))
  refine c_keep [6] (.cons rfl .nil) ?_
  refine c_ret ?_
  refine e_done1 Tryd.results48 rfl ?_
  refine ⟨_, rfl, ?_⟩
  have hw8 := St.del (.tail (.tail (.tail (.tail .head)))) hw7
  try clear hw7
  have hw9 := St.del (.tail (.tail (.tail .head))) hw8
  try clear hw8
  have hw10 := St.del (.tail (.tail .head)) hw9
  try clear hw9
  have hw11 := St.del (.tail .head) hw10
  try clear hw10
  have hw12 := St.del .head hw11
  try clear hw11
  refine ⟨?_, hw12.grows⟩
  refine congrArg Value.bool (decide_eq_decide.2 ?_)
  rw [hrr]
  exact ⟨fun h => ⟨by omega, by omega, by omega, h⟩, fun h => h.2.2.2⟩
def fQ (x y e : Int) : Int := fN x e / fD y e
def hit (d : Kd) (b x y e : Int) : Prop := rdQ d b (fQ x y e) e ∨ rdQ d b (fQ x y e + 1) e
instance (d : Kd) (b x y e : Int) : Decidable (hit d b x y e) := by unfold hit; infer_instance
def upp (d : Kd) (b x y e : Int) : Prop := ¬ rdQ d b (fQ x y e) e ∨ (rdQ d b (fQ x y e + 1) e ∧ (0 < hfS x y e ∨ (hfS x y e = 0 ∧ fQ x y e % 2 = 1)))
instance (d : Kd) (b x y e : Int) : Decidable (upp d b x y e) := by unfold upp; infer_instance
def pickM (d : Kd) (b x y e : Int) : Int := if upp d b x y e then fQ x y e + 1 else fQ x y e
def StripR (m e m' e' : Int) : Prop := m' % 10 ≠ 0 ∧ ∃ j : Nat, m = m' * 10 ^ j ∧ e' = e + j
theorem StripR.unique {m e m1 e1 m2 e2 : Int} (h : StripR m e m1 e1) (k : StripR m e m2 e2) : m1 = m2 ∧ e1 = e2 := by
 have key : ∀ {m1 e1 m2 e2 : Int} {i j : Nat}, m1 % 10 ≠ 0 → m = m1 * 10 ^ i → m = m2 * 10 ^ j → ¬ i < j := fun {m1 e1 m2 e2 i j} h1 h2 h3 h4 => by
  obtain ⟨u, hu⟩ : ∃ u, j = i + (u + 1) := ⟨j - i - 1, by omega⟩
  rw [h2, hu, Int.pow_add, Int.mul_comm (10 ^ i), ← Int.mul_assoc] at h3
  have h5 := Int.eq_of_mul_eq_mul_right (show (10 : Int) ^ i ≠ 0 by have := p10 i; omega) h3
  rw [Int.pow_succ, ← Int.mul_assoc] at h5
  omega
 obtain ⟨h1, i, h2, h3⟩ := h
 obtain ⟨k1, j, k2, k3⟩ := k
 rcases Nat.lt_trichotomy i j with hl | hl | hl
 ·exact absurd hl (key (e1 := 0) (e2 := 0) h1 h2 k2)
 ·subst hl
  rw [h2] at k2
  exact ⟨Int.eq_of_mul_eq_mul_right (show (10 : Int) ^ i ≠ 0 by have := p10 i; omega) k2, by omega⟩
 ·exact absurd hl (key (e1 := 0) (e2 := 0) k1 k2 h2)
theorem StripR.go {m e : Int} {n : Nat} {m' : Int} (h : m = m' * 10 ^ n) (h0 : ¬ m' % 10 = 0) : StripR m e m' (e + n) := ⟨h0, n, h, rfl⟩
def EndR (d : Kd) (b x y t f : Int) : Prop := TopR x y t ∧ f ≤ t ∧ (∀ g, f < g → g ≤ t → ¬ hit d b x y g) ∧ hit d b x y f
def DigR (d : Kd) (b x y m e : Int) : Prop := ∃ t f, EndR d b x y t f ∧ StripR (pickM d b x y f) f m e
theorem EndR.unique {d : Kd} {b x y t f u g : Int} (hy : 0 < y) (h : EndR d b x y t f) (k : EndR d b x y u g) : t = u ∧ f = g := by
 have e := h.1.unique hy k.1
 subst e
 refine ⟨rfl, ?_⟩
 rcases Int.lt_trichotomy f g with hl | hl | hl
 ·exact absurd k.2.2.2 (h.2.2.1 g hl k.2.1)
 ·exact hl
 ·exact absurd h.2.2.2 (k.2.2.1 f hl h.2.1)
theorem DigR.unique {d : Kd} {b x y m e m' e' : Int} (hy : 0 < y) (h : DigR d b x y m e) (k : DigR d b x y m' e') : m = m' ∧ e = e' := by
 obtain ⟨t, f, h1, h2⟩ := h
 obtain ⟨u, g, k1, k2⟩ := k
 obtain ⟨rfl, rfl⟩ := h1.unique hy k1
 exact h2.unique k2
theorem fQ_bd {x y t e : Int} (hx : 0 ≤ x) (hy : 0 < y) (h : TopR x y t) (n : Nat) (hn : t + 1 - e ≤ n) : 0 ≤ fQ x y e ∧ fQ x y e < 10 ^ n := by
 have hD := fD_pos hy e
 refine ⟨Int.ediv_nonneg (fN_nonneg hx e) (Int.le_of_lt hD), ?_⟩
 rcases Int.lt_or_le t e with h1 | h1
 ·have h2 : fN x e < fD y e := by
   rcases Int.lt_or_le (fN x e) (fD y e) with h3 | h3
   ·exact h3
   ·have := h.ge hy h3
    omega
  have h3 := p10 n
  rw [fQ, Int.ediv_eq_zero_of_lt (fN_nonneg hx e) h2]
  exact h3
 ·have h2 := digs_lt hy h (t + 1 - e).toNat
  rw [show t + 1 - ((t + 1 - e).toNat : Int) = e from by omega] at h2
  exact Int.lt_of_lt_of_le h2 (Ma.pow_mono (by omega) (by omega))
theorem hit17 {d : Kd} {b x y t : Int} (hb : 0 < b ∧ b < d.I) (h : Flt d b x y) (ht : TopR x y t) (hl : -400 ≤ t ∧ t ≤ 400) : hit d b x y (t - 17) := by
 have h1 := digs_ge h.hy ht 17
 rw [show ((17 : Nat) : Int) = 17 from rfl] at h1
 have h3 : (10 : Int) ^ 17 = 100000000000000000 := by decide
 rw [h3] at h1
 exact .inl ⟨by unfold fQ; omega, by omega, by omega, rd_low hb (Int.le_of_lt h.hx) h.hy h.hv h1⟩
theorem pick_pos {d : Kd} {b x y t e : Int} (hx : 0 ≤ x) (hy : 0 < y) (ht : TopR x y t) (h : hit d b x y e) : 0 < pickM d b x y e := by
 have h0 := (fQ_bd (e := e) hx hy ht (t + 1 - e).toNat (by omega)).1
 unfold pickM
 split
 ·omega
 ·rename_i h1
  unfold upp at h1
  have h2 : rdQ d b (fQ x y e) e := Classical.not_not.1 (fun h3 => h1 (.inl h3))
  have := h2.1
  omega
def DigE (k b m e er : Int) : Prop := er = ofE k b ∧ (er ≠ 0 → m = 0 ∧ e = 0) ∧ (er = 0 → ∃ d, kd k = some d ∧ b < 2 * d.S ∧ 0 < b % d.S ∧ b % d.S < d.I ∧ DigR d (b % d.S) (fX d (b % d.S)) (fY d (b % d.S)) m e)
theorem DigE.unique {k b m e er m' e' er' : Int} (h : DigE k b m e er) (g : DigE k b m' e' er') : m = m' ∧ e = e' ∧ er = er' := by
 have he : er = er' := h.1.trans g.1.symm
 subst he
 by_cases h0 : er = 0
 ·obtain ⟨d, hd, _, _, _, h1⟩ := h.2.2 h0
  obtain ⟨d', hd', _, _, _, g1⟩ := g.2.2 h0
  rw [hd] at hd'
  cases hd'
  exact ⟨(h1.unique (fY_pos _ _) g1).1, (h1.unique (fY_pos _ _) g1).2, rfl⟩
 ·have h1 := h.2.1 h0
  have g1 := g.2.1 h0
  exact ⟨by omega, by omega, rfl⟩
theorem DigR.bd {d : Kd} {b m e : Int} (hb : 0 < b ∧ b < d.I) (h : DigR d b (fX d b) (fY d b) m e) : 0 < m ∧ m ≤ 1000000000000000000 ∧ -420 ≤ e ∧ e ≤ 380 := by
 obtain ⟨t, f, ⟨h1, h2, h3, h4⟩, h5, j, h6, h7⟩ := h
 have hf := flt_of hb
 obtain ⟨t', ht', h8, h9, h10, _⟩ := flt_top hf
 have e := h1.unique hf.hy ht'
 subst e
 have h11 : t - 17 ≤ f := by
  rcases Int.lt_or_le f (t - 17) with h | h
  ·exact absurd (hit17 hb hf h1 (by omega)) (h3 _ h (by omega))
  ·exact h
 have hp := pick_pos (Int.le_of_lt hf.hx) hf.hy h1 h4
 have hq := fQ_bd (Int.le_of_lt hf.hx) hf.hy h1 18 (e := f) (by omega)
 have h18 : (10 : Int) ^ 18 = 1000000000000000000 := by decide
 rw [h18] at hq
 have hq2 : pickM d b (fX d b) (fY d b) f ≤ 1000000000000000000 := by
  unfold pickM
  split <;> omega
 rw [h6] at hp hq2
 have hj := p10 j
 have hm : 0 < m := by
  rcases Int.lt_or_le 0 m with h | h
  ·exact h
  ·have := Int.mul_le_mul_of_nonneg_right h (Int.le_of_lt hj)
   omega
 have hm2 : m * 1 ≤ m * 10 ^ j := Int.mul_le_mul_of_nonneg_left (by omega) (Int.le_of_lt hm)
 have hj2 : 1 * 10 ^ j ≤ m * 10 ^ j := Int.mul_le_mul_of_nonneg_right (by omega) (Int.le_of_lt hj)
 have hj3 : j ≤ 18 := by
  rcases Nat.lt_or_ge 18 j with h | h
  ·have := Ma.pow_mono (show (1 : Int) ≤ 10 by omega) (show 19 ≤ j by omega)
   have h19 : (10 : Int) ^ 19 = 10000000000000000000 := by decide
   omega
  ·exact h
 exact ⟨hm, by omega, by omega, by omega⟩
theorem DigE.bd {k b m e er : Int} (h : DigE k b m e er) : 0 ≤ m ∧ m ≤ 1000000000000000000 ∧ -420 ≤ e ∧ e ≤ 380 ∧ (er = 0 → 0 < m) := by
 by_cases h0 : er = 0
 ·obtain ⟨d, hd, _, h1, h2, h3⟩ := h.2.2 h0
  have := h3.bd ⟨h1, h2⟩
  omega
 ·have := h.2.1 h0
  omega
theorem pow10_le {m : Int} {j : Nat} (h : 0 < m) (h2 : m * 10 ^ j ≤ 1000000000000000000) : j ≤ 18 := by
 rcases Nat.lt_or_ge 18 j with h1 | h1
 ·exfalso
  have h3 := Ma.pow_mono (show (1 : Int) ≤ 10 by omega) (show 19 ≤ j by omega)
  have h19 : (10 : Int) ^ 19 = 10000000000000000000 := by decide
  have h4 : 1 * 10 ^ j ≤ m * 10 ^ j := Int.mul_le_mul_of_nonneg_right (by omega) (Int.le_of_lt (p10 j))
  omega
 ·exact h1
theorem pow10_next {m0 m : Int} {j : Nat} (h : m0 = m * 10 ^ j) (h10 : m % 10 = 0) : m0 = m / 10 * 10 ^ (j + 1) := by
 rw [h, Int.pow_succ, Int.mul_comm _ 10, ← Int.mul_assoc, show m / 10 * 10 = m from by omega]
theorem pick_le {d : Kd} {b x y e : Int} (h : fQ x y e < 1000000000000000000) : pickM d b x y e ≤ 1000000000000000000 := by
 unfold pickM
 split <;> omega
theorem no_next {d : Kd} {b x y t f : Int} (hb : 0 < b ∧ b < d.I) (h : Flt d b x y) (ht : TopR x y t) (hl : -400 ≤ t ∧ t ≤ 400) (hf : t - 17 ≤ f) (hno : ∀ g, f < g → g ≤ t → ¬ hit d b x y g) (hm : ¬ hit d b x y f) : t - 17 ≤ f - 1 ∧ ∀ g, f - 1 < g → g ≤ t → ¬ hit d b x y g := by
 refine ⟨?_, fun g h1 h2 => ?_⟩
 ·rcases Int.lt_or_eq_of_le hf with h1 | h1
  ·omega
  ·exact absurd (hit17 hb h ht hl) (by rw [h1]; exact hm)
 ·rcases Int.lt_or_eq_of_le (show f ≤ g by omega) with h3 | h3
  ·exact hno g h3 h2
  ·rw [← h3]; exact hm
theorem DigitsF (k b : Int) (hb : 0 ≤ b ∧ b ≤ 18446744073709551615) (w : World) :
  CallsV P 35 [.int .i64 k, .int .u64 b] w fun r w' => ∃ m e er, r = .tuple #[.int .u64 m, .int .i64 e, .int .i64 er] ∧ DigE k b m e er ∧ Grow w w' [] := by
 refine enterW Tryd.func35 rfl Tryd.ntmps35 rfl ?_
 have hw0 := St.start w
 refine c_seq (c_region (l_assign rfl rfl rfl (l_assign rfl rfl rfl (l_assign rfl rfl rfl (l_nil ?_)))))
 refine e_then ?_
 refine c_keep [0, 1] (.cons rfl (.cons rfl .nil)) ?_
 refine c_seq (c_region (l_move rfl rfl rfl (l_move rfl rfl rfl ?_)))
 refine l_call rfl rfl Tryd.func45 rfl rfl (.cons rfl (.cons rfl .nil)) (ofF k b hb w) ?_
 rintro _ w1 ⟨vn, ln, vd, ld, kk, bb, er, rfl, her, hok, hG⟩
 have hw1 := hG _ _ _ _ hw0
 try clear hG hw0
 simp only [List.cons_append, List.nil_append] at hw1
 have hnn := slice_one (hw1.io mem0)
 have hnd := slice_one (hw1.io mem1)
 refine l_move rfl rfl rfl (l_extract rfl rfl rfl rfl (l_extract rfl rfl rfl rfl ?_))
 refine l_alloc hw1 ta83 rfl rfl (fun b1_6 w2 hw2 => ?_)
 try clear hw1
 refine l_store_blks hw2 .head (.zero (.zero (.zero (.zero .nil)))) rfl tz83 rfl rfl (by first | (simp [Value.oneCell']; done) | (intro u hu; simp only [List.mem_cons, List.not_mem_nil, or_false] at hu; rcases hu with rfl | rfl | rfl | rfl <;> first | rfl | assumption)) (fun w3 hw3 => ?_)
 try clear hw2
 refine l_assign rfl rfl rfl (l_nil (e_then ?_))
 refine c_keep [6, 7] (.cons rfl (.cons rfl .nil)) ?_
 refine c_seq (c_seq (c_region (l_move rfl rfl rfl ?_)))
 refine l_neq rfl rfl rfl rfl ?_
 refine l_nil (e_then ?_)
 refine c_keep [6, 7, 19] (.cons rfl (.cons rfl (.cons rfl .nil))) ?_
 first | refine c_cond rfl (fun hc0 => ?_) (fun hc0 => ?_) | refine c_condb rfl (fun hc0 => ?_) (fun hc0 => ?_)
 ·skip
  refine c_seq (c_region (l_move rfl rfl rfl (l_assign rfl rfl rfl (l_assign rfl rfl rfl (l_assign rfl rfl rfl ?_)))))
  refine l_nil (e_then ?_)
  refine c_keep [4, 5, 6] (.cons rfl (.cons rfl (.cons rfl .nil))) ?_
  refine c_ret ?_
  refine e_then_ret ?_
  refine e_doneN Tryd.results35 (.tmp rfl (.tmp rfl (.tmp rfl .nil))) rfl ?_
  refine ⟨_, rfl, ?_⟩
  have hw4 := St.del (.tail (.tail .head)) hw3
  try clear hw3
  have hw5 := St.del (.tail .head) hw4
  try clear hw4
  have hw6 := St.del .head hw5
  try clear hw5
  exact ⟨_, _, _, rfl, ⟨her, fun _ => ⟨rfl, rfl⟩, fun h => absurd h (by omega)⟩, hw6.grows⟩
 ·skip
  have her0 : er = 0 := by omega
  obtain ⟨d, hk, hltS, hlo, hhi, hkk, hbb, hcn, hcd⟩ := hok her0
  rw [← hbb] at hlo hhi hcn hcd
  have hk2 : kd kk = some d := by rw [hkk]; exact hk
  have hfl := flt_of ⟨hlo, hhi⟩
  have hfx := hfl.bx
  have hfy := hfl.by'
  obtain ⟨t, ht, het, hlo4, hhi3, hlt64⟩ := flt_top hfl
  have hes := ht.le hfl.hy het
  refine c_skip (e_then ?_)
  refine c_keep [7] (.cons rfl .nil) ?_
  refine c_seq (c_region (l_field fo83_0 rfl rfl rfl ?_))
  refine l_load_agg hw3 mem0 rfl rfl Tryd.underlying81 rfl tz81 rfl (.take (.take .nil)) ?_
  refine l_call rfl rfl Tryd.func46 rfl rfl (.cons rfl .nil) (sizeF vn vd ln ld _ _ hcn hcd (by omega) (by omega) hfl.hy t ht hes hlt64 hlo4 (by omega) w3 (hw3.io mem2) (hw3.io mem1)) ?_
  rintro _ w7 ⟨rfl, hG⟩
  have hw7 := hG _ _ _ _ hw3
  try clear hG hw3
  simp only [List.cons_append, List.nil_append] at hw7
  refine l_assign rfl rfl rfl (l_nil (e_then ?_))
  refine c_keep [5, 7] (.cons rfl (.cons rfl .nil)) ?_
  refine c_block ?_
  refine c_loopk (ι := Int) (fun (f : Int) => (f - (t - 18)).toNat) (fun (f : Int) (w' : World) => St w w.heap.size None' ([As.blk b1_6 83 [vn, vd, .int .i64 kk, .int .u64 bb], As.ri 22 .u64 vd ld, As.ri 22 .u64 vn ln]) w' ∧ t - 17 ≤ f ∧ f ≤ t ∧ (∀ g, f < g → g ≤ t → ¬ hit d bb (fX d bb) (fY d bb) g)) (fun (f : Int) => [(5, .int .i64 f)]) [7] (t) ?_ (.cons rfl .nil) ?_ ?_
  ·exact ⟨hw7, by omega, Int.le_refl _, fun g h1 h2 => by omega⟩
  ·exact (.cons rfl (by first | rfl | (refine congrArg (Value.int _) ?_; omega)) .nil)
  rintro f w8 ⟨hw8, hf1, hf2, hno⟩
  show RunC P _ _ _ (_ :: _) _
  refine c_seq (c_block (c_seq (c_region ?_)))
  have hq := fQ_bd (Int.le_of_lt hfl.hx) hfl.hy ht 18 (e := f) (by omega)
  rw [show (10 : Int) ^ 18 = 1000000000000000000 by decide] at hq
  refine l_field fo83_0 rfl rfl rfl ?_
  refine l_load_agg hw8 mem0 rfl rfl Tryd.underlying81 rfl tz81 rfl (.take (.take .nil)) ?_
  refine l_move rfl rfl rfl ?_
  refine l_call rfl rfl Tryd.func47 rfl rfl (.cons rfl (.cons rfl .nil)) (wholeF vn vd ln ld _ _ hcn hcd (by omega) (by omega) hfl.hy f (by omega) w8 (hw8.io mem2) (hw8.io mem1)) ?_
  rintro _ w9 ⟨rfl, hG⟩
  have hw9 := hG _ _ _ _ hw8
  try clear hG hw8
  simp only [List.cons_append, List.nil_append] at hw9
  refine l_move rfl rfl rfl (l_extract rfl rfl rfl rfl (l_extract rfl rfl rfl rfl ?_))
  refine l_turn (s := 31) (v' := .int .u64 (fQ (fX d bb) (fY d bb) f)) rfl (congrArg (Value.int .u64) (Int.emod_eq_of_lt hq.1 (Int.lt_trans hq.2 (by decide)))) ?_
  refine l_assign rfl rfl rfl (l_assign rfl rfl rfl (l_nil (e_then ?_)))
  refine c_keep [5, 7, 8, 9] (.cons rfl (.cons rfl (.cons rfl (.cons rfl .nil)))) ?_
  refine c_seq ?_
  have hw10 := hw9.drewn
  try clear hw9
  refine c_any (n := 11) [false, false, false, false, false, false, false, false, false, false, false] (fun wS => (As.blk b1_6 83 [vn, vd, .int .i64 kk, .int .u64 bb]).ok wS) (by kernel_rfl) rfl rfl ?_
  apply a_take (L' := [true, false, false, false, false, false, false, false, false, false, false]) 0 rfl (by kernel_rfl) (by kernel_rfl) (by kernel_rfl) rfl rfl rfl rfl rfl (hw10.ok mem0)
  ·intro wS sS
   refine l_load_agg (blk_st sS) mem0 rfl rfl Tryd.underlying83 rfl tz83 rfl (.take (.take (.take (.take .nil)))) ?_
   refine l_nil ?_
   exact e_got rfl
  apply a_take (L' := [true, true, false, false, false, false, false, false, false, false, false]) 1 rfl (by kernel_rfl) (by kernel_rfl) (by kernel_rfl) rfl rfl rfl rfl rfl (hw10.ok mem0)
  ·intro wS sS
   refine l_move rfl rfl rfl (l_nil ?_)
   exact e_got rfl
  apply a_take (L' := [true, true, true, false, false, false, false, false, false, false, false]) 2 rfl (by kernel_rfl) (by kernel_rfl) (by kernel_rfl) rfl rfl rfl rfl rfl (hw10.ok mem0)
  ·intro wS sS
   refine l_move rfl rfl rfl (l_nil ?_)
   exact e_got rfl
  apply a_take (L' := [true, true, true, false, true, false, false, false, false, false, false]) 4 rfl (by kernel_rfl) (by kernel_rfl) (by kernel_rfl) rfl rfl rfl rfl rfl (hw10.ok mem0)
  ·intro wS sS
   refine l_load_agg (blk_st sS) mem0 rfl rfl Tryd.underlying83 rfl tz83 rfl (.take (.take (.take (.take .nil)))) ?_
   refine l_nil ?_
   exact e_got rfl
  apply a_take (L' := [true, true, true, false, true, true, false, false, false, false, false]) 5 rfl (by kernel_rfl) (by kernel_rfl) (by kernel_rfl) rfl rfl rfl rfl rfl (hw10.ok mem0)
  ·intro wS sS
   refine l_move rfl rfl rfl (l_nil ?_)
   exact e_got rfl
  apply a_take (L' := [true, true, true, false, true, true, true, false, false, false, false]) 6 rfl (by kernel_rfl) (by kernel_rfl) (by kernel_rfl) rfl rfl rfl rfl rfl (hw10.ok mem0)
  ·intro wS sS
   refine l_add rfl rfl rfl rfl (w_u64 (by omega)) ?_
   refine l_nil ?_
   exact e_got rfl
  apply a_take (L' := [true, true, true, false, true, true, true, true, false, false, false]) 7 rfl (by kernel_rfl) (by kernel_rfl) (by kernel_rfl) rfl rfl rfl rfl rfl (hw10.ok mem0)
  ·intro wS sS
   refine l_move rfl rfl rfl (l_nil ?_)
   exact e_got rfl
  refine a_one (L' := [true, true, true, true, true, true, true, true, false, false, false]) 3 (by kernel_rfl) rfl rfl ?_
  refine l_call rfl rfl Tryd.func48 rfl rfl (.cons rfl (.cons rfl (.cons rfl .nil))) (readsF vn vd ln ld kk d hk2 bb (fQ (fX d bb) (fY d bb) f) f ⟨hlo, hhi⟩ (by omega) w9.drew (hw10.io mem2) (hw10.io mem1)) ?_
  rintro _ w11 ⟨rfl, hG⟩
  have hw11 := hG _ _ _ _ hw10
  try clear hG hw10
  simp only [List.cons_append, List.nil_append] at hw11
  refine l_nil ?_
  refine e_any (hw11.ok mem0) ?_
  refine a_one (L' := [true, true, true, true, true, true, true, true, true, false, false]) 8 (by kernel_rfl) rfl rfl ?_
  refine l_call rfl rfl Tryd.func48 rfl rfl (.cons rfl (.cons rfl (.cons rfl .nil))) (readsF vn vd ln ld kk d hk2 bb (fQ (fX d bb) (fY d bb) f + 1) f ⟨hlo, hhi⟩ (by omega) w11 (hw11.io mem2) (hw11.io mem1)) ?_
  rintro _ w12 ⟨rfl, hG⟩
  have hw12 := hG _ _ _ _ hw11
  try clear hG hw11
  simp only [List.cons_append, List.nil_append] at hw12
  refine l_nil ?_
  refine e_any (hw12.ok mem0) ?_
  apply a_take (L' := [true, true, true, true, true, true, true, true, true, true, false]) 9 rfl (by kernel_rfl) (by kernel_rfl) (by kernel_rfl) rfl rfl rfl rfl rfl (hw12.ok mem0)
  ·intro wS sS
   refine l_assign rfl rfl rfl (l_nil ?_)
   exact e_got rfl
  apply a_take (L' := [true, true, true, true, true, true, true, true, true, true, true]) 10 rfl (by kernel_rfl) (by kernel_rfl) (by kernel_rfl) rfl rfl rfl rfl rfl (hw12.ok mem0)
  ·intro wS sS
   refine l_assign rfl rfl rfl (l_nil ?_)
   exact e_got rfl
  refine a_done (by kernel_rfl) ?_
  refine e_then ?_
  refine c_keep [5, 7, 8, 9, 10, 11] (.cons rfl (.cons rfl (.cons rfl (.cons rfl (.cons rfl (.cons rfl .nil)))))) ?_
  refine c_seq (c_seq (c_region (l_move rfl rfl rfl ?_)))
  first | refine l_notd rfl rfl rfl ?_ | refine l_not rfl rfl rfl ?_
  refine l_turn (s := 43) (v' := .bool (decide (¬ rdQ d bb (fQ (fX d bb) (fY d bb) f) f))) rfl (by rw [decide_not]) ?_
  refine l_move rfl rfl rfl ?_
  apply l_and 2 [5, 7, 8, 9, 10, 11] rfl rfl (.cons rfl (.cons rfl (.cons rfl (.cons rfl (.cons rfl (.cons rfl (.cons rfl .nil))))))) rfl rfl (fun _ => rfl) rfl rfl rfl
  ·intro hg8_3
   refine l_move rfl rfl rfl ?_
   first | refine l_notd rfl rfl rfl ?_ | refine l_not rfl rfl rfl ?_
   refine l_nil ?_
   exact e_stays rfl (.cons rfl (congrArg Value.bool (decide_eq_true hg8_3).symm) (.cons rfl rfl (.cons rfl rfl (.cons rfl rfl (.cons rfl rfl (.cons rfl rfl (.cons rfl rfl .nil)))))))
   all_goals infer_instance
  refine l_nil (e_then ?_)
  refine c_keep [5, 7, 8, 9, 10, 11, 47] (.cons rfl (.cons rfl (.cons rfl (.cons rfl (.cons rfl (.cons rfl (.cons rfl .nil))))))) ?_
  first | refine c_cond rfl (fun hc1 => ?_) (fun hc1 => ?_) | refine c_condb rfl (fun hc1 => ?_) (fun hc1 => ?_)
  ·skip
   refine c_exit ?_
   refine e_then_exit ?_
   refine e_blk_exit ?_
   refine e_then ?_
   refine c_keep [5, 7] (.cons rfl (.cons rfl .nil)) ?_
   refine c_region (l_move rfl rfl rfl ?_)
   refine l_sub rfl rfl rfl rfl (w_i64 (by omega)) ?_
   refine l_assign rfl rfl rfl (l_nil ?_)
   have hmiss : ¬ hit d bb (fX d bb) (fY d bb) f := fun h => h.elim hc1.1 hc1.2
   obtain ⟨hf3, hno2⟩ := no_next ⟨hlo, hhi⟩ hfl ht (by omega) hf1 hno hmiss
   refine e_againk (i := (f)) (f - 1) ?_ ?_ (.cons rfl .nil) ?_
   ·first | omega | (simp; omega)
   ·exact ⟨hw12, hf3, by omega, hno2⟩
   ·exact (.cons rfl (by first | rfl | (refine congrArg (Value.int _) ?_; omega)) .nil)
  ·skip
   refine c_skip (e_then ?_)
   refine c_keep [5, 8, 9, 10, 11] (.cons rfl (.cons rfl (.cons rfl (.cons rfl (.cons rfl .nil))))) ?_
   refine c_seq (c_region ?_)
   have hhit : hit d bb (fX d bb) (fY d bb) f := Classical.byContradiction fun h => hc1 ⟨fun a => h (.inl a), fun b => h (.inr b)⟩
   have hpp := pick_pos (Int.le_of_lt hfl.hx) hfl.hy ht hhit
   have hpb := pick_le (d := d) (b := bb) hq.2
   refine l_move rfl rfl rfl (l_assign rfl rfl rfl (l_nil (e_then ?_)))
   refine c_keep [4, 5, 8, 9, 10, 11] (.cons rfl (.cons rfl (.cons rfl (.cons rfl (.cons rfl (.cons rfl .nil)))))) ?_
   refine c_cutk (ι := Int) (fun (m0 : Int) (w' : World) => St w w.heap.size None' ([]) w' ∧ m0 = pickM d bb (fX d bb) (fY d bb) f) (fun (m0 : Int) => [(4, .int .u64 m0)]) [5] (.cons rfl .nil) ?_ ?_
   ·skip
    refine c_seq (c_region (l_move rfl rfl rfl ?_))
    first | refine l_notd rfl rfl rfl ?_ | refine l_not rfl rfl rfl ?_
    refine l_turn (s := 50) (v' := .bool (decide (¬ rdQ d bb (fQ (fX d bb) (fY d bb) f) f))) rfl (by rw [decide_not]) ?_
    refine l_move rfl rfl rfl ?_
    apply l_or (q := rdQ d bb (fQ (fX d bb) (fY d bb) f + 1) f ∧ (0 < hfS (fX d bb) (fY d bb) f ∨ (hfS (fX d bb) (fY d bb) f = 0 ∧ fQ (fX d bb) (fY d bb) f % 2 = 1))) 14 [4, 5] rfl rfl (.cons rfl (.cons rfl (.cons rfl .nil))) rfl rfl (fun _ => rfl) rfl rfl rfl
    ·intro hg10_3
     refine l_move rfl rfl rfl (l_move rfl rfl rfl ?_)
     apply l_and (q := 0 < hfS (fX d bb) (fY d bb) f ∨ (hfS (fX d bb) (fY d bb) f = 0 ∧ fQ (fX d bb) (fY d bb) f % 2 = 1)) 11 [4, 5, 51] rfl rfl (.cons rfl (.cons rfl (.cons rfl (.cons rfl .nil)))) rfl rfl (fun _ => rfl) rfl rfl rfl
     ·intro hg10_5
      refine l_move rfl rfl rfl ?_
      refine l_gtr rfl rfl rfl rfl ?_
      refine l_move rfl rfl rfl ?_
      apply l_or (q := hfS (fX d bb) (fY d bb) f = 0 ∧ fQ (fX d bb) (fY d bb) f % 2 = 1) 7 [4, 5, 51, 53] rfl rfl (.cons rfl (.cons rfl (.cons rfl (.cons rfl (.cons rfl .nil))))) rfl rfl (fun _ => rfl) rfl rfl rfl
      ·intro hg10_8
       refine l_move rfl rfl rfl ?_
       refine l_eql rfl rfl rfl rfl ?_
       refine l_move rfl rfl rfl ?_
       apply l_and (q := fQ (fX d bb) (fY d bb) f % 2 = 1) 3 [4, 5, 51, 53, 56] rfl rfl (.cons rfl (.cons rfl (.cons rfl (.cons rfl (.cons rfl (.cons rfl .nil)))))) rfl rfl (fun _ => rfl) rfl rfl rfl
       ·intro hg10_11
        refine l_move rfl rfl rfl ?_
        refine l_rem rfl rfl rfl rfl (by omega) (r_pos (by omega)) ?_
        refine l_eql rfl rfl rfl rfl ?_
        refine l_nil ?_
        exact e_stays rfl (.cons rfl (congrArg Value.bool (decide_eq_true hg10_11).symm) (.cons rfl rfl (.cons rfl rfl (.cons rfl rfl (.cons rfl rfl (.cons rfl rfl .nil))))))
        all_goals infer_instance
       refine l_nil ?_
       exact e_stays rfl (.cons rfl (congrArg Value.bool (decide_eq_false hg10_8).symm) (.cons rfl rfl (.cons rfl rfl (.cons rfl rfl (.cons rfl rfl .nil)))))
       all_goals infer_instance
      refine l_nil ?_
      exact e_stays rfl (.cons rfl (congrArg Value.bool (decide_eq_true hg10_5).symm) (.cons rfl rfl (.cons rfl rfl (.cons rfl rfl .nil))))
      all_goals infer_instance
     refine l_nil ?_
     exact e_stays rfl (.cons rfl (congrArg Value.bool (decide_eq_false hg10_3).symm) (.cons rfl rfl (.cons rfl rfl .nil)))
     all_goals infer_instance
    refine l_nil (e_then ?_)
    refine c_keep [4, 5, 66] (.cons rfl (.cons rfl (.cons rfl .nil))) ?_
    first | refine c_cond rfl (fun hc2 => ?_) (fun hc2 => ?_) | refine c_condb rfl (fun hc2 => ?_) (fun hc2 => ?_)
    ·skip
     refine c_region (l_move rfl rfl rfl ?_)
     refine l_add rfl rfl rfl rfl (w_u64 (by omega)) ?_
     refine l_assign rfl rfl rfl (l_nil ?_)
     have hw13 := St.del (.tail (.tail .head)) hw12
     try clear hw12
     have hw14 := St.del (.tail .head) hw13
     try clear hw13
     have hw15 := St.del .head hw14
     try clear hw14
     refine e_meetk (fQ (fX d bb) (fY d bb) f + 1) ?_ (.cons rfl .nil) ?_
     ·exact ⟨hw15, (if_pos (c := upp d bb (fX d bb) (fY d bb) f) hc2).symm⟩
     ·exact (.cons rfl (by first | rfl | (refine congrArg (Value.int _) ?_; omega)) .nil)
    ·skip
     refine c_skip ?_
     have hw16 := St.del (.tail (.tail .head)) hw12
     try clear hw12
     have hw17 := St.del (.tail .head) hw16
     try clear hw16
     have hw18 := St.del .head hw17
     try clear hw17
     refine e_meetk (fQ (fX d bb) (fY d bb) f) ?_ (.cons rfl .nil) ?_
     ·exact ⟨hw18, (if_neg (c := upp d bb (fX d bb) (fY d bb) f) hc2).symm⟩
     ·exact (.cons rfl (by first | rfl | (refine congrArg (Value.int _) ?_; omega)) .nil)
   rintro m0 w19 ⟨hw19, hm0d⟩
   show RunC P _ _ _ (_ :: _) _
   refine c_seq (c_block ?_)
   refine c_loopk (ι := Nat × Int) (fun (z0 : Nat × Int) => match z0 with | ⟨j, m⟩ => m.toNat) (fun (z0 : Nat × Int) (w' : World) => match z0 with | ⟨j, m⟩ => St w w.heap.size None' ([]) w' ∧ m0 = m * 10 ^ j ∧ 0 < m ∧ m ≤ 1000000000000000000) (fun (z0 : Nat × Int) => match z0 with | ⟨j, m⟩ => [(4, .int .u64 m), (5, .int .i64 (f + j))]) [] (0, m0) ?_ .nil ?_ ?_
   ·exact ⟨hw19, by simp, by omega, by omega⟩
   ·exact (.cons rfl (by first | rfl | (refine congrArg (Value.int _) ?_; omega)) (.cons rfl (by first | rfl | (refine congrArg (Value.int _) ?_; omega)) .nil))
   rintro ⟨j, m⟩ w20 ⟨hw20, hm0, hmp, hm1⟩
   show RunC P _ _ _ (_ :: _) _
   have hj := pow10_le (j := j) hmp (by omega)
   refine c_seq (c_seq (c_region (l_move rfl rfl rfl ?_)))
   refine l_rem rfl rfl rfl rfl (by omega) (r_pos (by omega)) ?_
   refine l_eql rfl rfl rfl rfl ?_
   refine l_nil (e_then ?_)
   refine c_keep [4, 5, 71] (.cons rfl (.cons rfl (.cons rfl .nil))) ?_
   first | refine c_cond rfl (fun hc3 => ?_) (fun hc3 => ?_) | refine c_condb rfl (fun hc3 => ?_) (fun hc3 => ?_)
   ·skip
    refine c_skip (e_then ?_)
    refine c_keep [4, 5] (.cons rfl (.cons rfl .nil)) ?_
    refine c_block (c_seq (c_region (l_move rfl rfl rfl ?_)))
    refine l_quo rfl rfl rfl rfl (by omega) (q_u64 (by omega)) ?_
    refine l_assign rfl rfl rfl (l_nil (e_then ?_))
    refine c_keep [4, 5] (.cons rfl (.cons rfl .nil)) ?_
    refine c_region (l_move rfl rfl rfl ?_)
    refine l_add rfl rfl rfl rfl (w_i64 (by omega)) ?_
    refine l_assign rfl rfl rfl (l_nil ?_)
    refine e_blk ?_
    refine e_againk (i := (j, m)) (j + 1, m / 10) ?_ ?_ .nil ?_
    ·first | omega | (simp; omega)
    ·exact ⟨hw20, pow10_next hm0 (by omega), by omega, by omega⟩
    ·exact (.cons rfl (by first | rfl | (refine congrArg (Value.int _) ?_; omega)) (.cons rfl (by first | rfl | (refine congrArg (Value.int _) ?_; omega)) .nil))
   ·skip
    refine c_exit ?_
    refine e_then_exit ?_
    refine e_then_exit ?_
    refine e_blk_exit ?_
    refine e_then ?_
    refine c_keep [4, 5] (.cons rfl (.cons rfl .nil)) ?_
    refine c_seq (c_region (l_move rfl rfl rfl (l_move rfl rfl rfl (l_assign rfl rfl rfl (l_assign rfl rfl rfl ?_)))))
    refine l_assign rfl rfl rfl (l_nil (e_then ?_))
    refine c_keep [4, 5, 6] (.cons rfl (.cons rfl (.cons rfl .nil))) ?_
    refine c_ret ?_
    refine e_blk_ret ?_
    refine e_then_ret ?_
    refine e_then_ret ?_
    refine e_blk_ret ?_
    refine e_doneN Tryd.results35 (.tmp rfl (.tmp rfl (.tmp rfl .nil))) rfl ?_
    refine ⟨_, rfl, ?_⟩
    exact ⟨_, _, _, rfl, ⟨by omega, fun h => absurd rfl h, fun _ => ⟨d, hk, hltS, by omega, by omega, by rw [← hbb]; exact ⟨t, f, ⟨ht, hf2, hno, hhit⟩, by rw [← hm0d]; exact StripR.go hm0 (by omega)⟩⟩⟩, hw20.grows⟩
theorem tenR (n : Int) (hn : n ≤ 1200) (w : World) :
  CallsV P 15 [.int .i64 n] w fun r w' => ∃ v ls, r = v ∧ R16 ls (10 ^ n.toNat) ∧ Grow w w' [As.ri 3 .i64 v ls] := by
 refine enterW Tryd.func15 rfl Tryd.ntmps15 rfl ?_
 have hw0 := St.start w
 refine c_seq (c_region (l_assign rfl rfl rfl (l_nil (e_then ?_))))
 refine c_keep [0] (.cons rfl .nil) ?_
 refine c_seq (c_region ?_)
 refine v_lit hw0 rfl rfl Tryd.underlying35 ti3 rfl (.cons rfl (by first | rfl | assumption) .nil) rfl rfl rfl (fun b1_0 w1 hw1 => ?_)
 try clear hw0
 have hw2 := hw1.blk_own (by decide)
 try clear hw1
 refine l_assign rfl rfl rfl (l_nil (e_then ?_))
 refine c_keep [0, 3] (.cons rfl (.cons rfl .nil)) ?_
 refine c_seq (c_seq (c_region (l_assign rfl rfl rfl (l_nil (e_then ?_)))))
 refine c_block ?_
 refine c_loopk (ι := Nat × List Int × Value) (fun (z0 : Nat × List Int × Value) => match z0 with | ⟨k, lx, vx⟩ => n.toNat - k) (fun (z0 : Nat × List Int × Value) (w' : World) => match z0 with | ⟨k, lx, vx⟩ => St w w.heap.size None' ([As.ri 3 .i64 vx lx]) w' ∧ ((k : Int) ≤ n ∨ k = 0) ∧ R16 lx (10 ^ k)) (fun (z0 : Nat × List Int × Value) => match z0 with | ⟨k, lx, vx⟩ => [(3, vx), (4, .int .i64 (k : Int))]) [0] (0, [1], .slice (some ⟨b1_0, 0, none⟩) 1 1) ?_ (.cons rfl .nil) ?_ ?_
 ·exact ⟨hw2, .inr rfl, by rw [Int.pow_zero]; exact R16.one1⟩
 ·exact (.cons rfl (by first | rfl | (refine congrArg (Value.int _) ?_; omega)) (.cons rfl (by first | rfl | (refine congrArg (Value.int _) ?_; omega)) .nil))
 rintro ⟨k, lx, vx⟩ w3 ⟨hw3, hk, hRx⟩
 show RunC P _ _ _ (_ :: _) _
 have hb10 := blen_10 k
 have hlx := hRx.len (k := 4801) (by omega)
 refine c_seq (c_seq (c_region (l_move rfl rfl rfl (l_move rfl rfl rfl ?_))))
 refine l_lss rfl rfl rfl rfl ?_
 refine l_nil (e_then ?_)
 refine c_keep [0, 3, 4, 8] (.cons rfl (.cons rfl (.cons rfl (.cons rfl .nil)))) ?_
 first | refine c_cond rfl (fun hc0 => ?_) (fun hc0 => ?_) | refine c_condb rfl (fun hc0 => ?_) (fun hc0 => ?_)
 ·skip
  refine c_skip (e_then ?_)
  refine c_keep [0, 3, 4] (.cons rfl (.cons rfl (.cons rfl .nil))) ?_
  refine c_seq (c_block (c_region (l_move rfl rfl rfl ?_)))
  refine v_lit hw3 rfl rfl Tryd.underlying35 ti3 rfl (.cons rfl (by first | rfl | assumption) .nil) rfl rfl rfl (fun b5_1 w4 hw4 => ?_)
  try clear hw3
  refine l_call rfl rfl Tryd.func12 rfl rfl (.cons rfl (.cons rfl .nil)) (prodR _ _ lx [10] _ 10 hRx R16.ten (by omega) (by simp) w4 (hw4.io mem1) (hw4.ibl mem0)) ?_
  rintro vp w5 ⟨_, lp, rfl, hRp, hG⟩
  have hw5 := hG _ _ _ _ hw4
  try clear hG hw4
  simp only [List.cons_append, List.nil_append] at hw5
  refine l_assign rfl rfl rfl (l_nil ?_)
  refine e_blk ?_
  refine e_then ?_
  refine c_keep [0, 3, 4] (.cons rfl (.cons rfl (.cons rfl .nil))) ?_
  refine c_region (l_move rfl rfl rfl ?_)
  refine l_add rfl rfl rfl rfl (w_i64 (by omega)) ?_
  refine l_assign rfl rfl rfl (l_nil ?_)
  have hw6 := St.del (.tail (.tail .head)) hw5
  try clear hw5
  have hw7 := St.del (.tail .head) hw6
  try clear hw6
  refine e_againk (i := (k, lx, vx)) (k + 1, lp, vp) ?_ ?_ (.cons rfl .nil) ?_
  ·first | omega | (simp; omega)
  ·exact ⟨hw7, .inl (by omega), by rw [Int.pow_succ]; exact hRp⟩
  ·exact (.cons rfl (by first | rfl | (refine congrArg (Value.int _) ?_; omega)) (.cons rfl (by first | rfl | (refine congrArg (Value.int _) ?_; omega)) .nil))
 ·skip
  refine c_exit ?_
  refine e_then_exit ?_
  refine e_then_exit ?_
  refine e_blk_exit ?_
  refine e_then ?_
  refine c_keep [3] (.cons rfl .nil) ?_
  refine c_seq (c_region (l_move rfl rfl rfl (l_assign rfl rfl rfl (l_nil (e_then ?_)))))
  refine c_keep [2] (.cons rfl .nil) ?_
  refine c_ret ?_
  refine e_done1 Tryd.results15 rfl ?_
  refine ⟨_, rfl, ?_⟩
  obtain rfl : n.toNat = k := by omega
  exact ⟨_, _, rfl, hRx, hw3.grows⟩
theorem frac10 (neg : Bool) (man exp : Int) (hm : 0 ≤ man ∧ man ≤ 18446744073709551615) (he : -2000 ≤ exp ∧ exp ≤ 2000) (w : World) :
  CallsV P 14 [.agg #[.bool neg, .int .u64 man, .int .i64 exp]] w fun r w' => ∃ v1 l1 v2 l2, r = .tuple #[v1, v2] ∧ R16 l1 (man * 2 ^ exp.toNat) ∧ R16 l2 (2 ^ (-exp).toNat) ∧ Grow w w' [As.ri 3 .i64 v2 l2, As.ri 3 .i64 v1 l1] := by
 refine enterW Tryd.func14 rfl Tryd.ntmps14 rfl ?_
 have hw0 := St.start w
 refine c_seq (c_region ?_)
 refine l_box hw0 rfl rfl rfl (fun b0_0 w1 hw1 => ?_)
 try clear hw0
 refine l_assign rfl rfl rfl (l_assign rfl rfl rfl (l_nil (e_then ?_)))
 refine c_keep [1] (.cons rfl .nil) ?_
 refine c_seq (c_region (l_field fo30_1 rfl rfl rfl ?_))
 refine l_load_blk hw1 mem0 rfl rfl Tryd.underlying22 rfl rfl rfl ?_
 refine v_lit hw1 rfl rfl Tryd.underlying62 ti22 rfl (.cons rfl (by first | rfl | assumption) .nil) rfl rfl rfl (fun b1_2 w2 hw2 => ?_)
 try clear hw1
 refine l_call rfl rfl Tryd.func13 rfl rfl (.cons rfl .nil) (numR _ [man] (U.one hm) (by simp) w2 (hw2.ibl mem0)) ?_
 rintro vx w3 ⟨_, lx, rfl, hRx, hG⟩
 have hw3 := hG _ _ _ _ hw2
 try clear hG hw2
 simp only [List.cons_append, List.nil_append] at hw3
 have hRx2 : R16 lx (man) := by have := hRx; rw [show Ma.vb 18446744073709551616 [man] = man from nv_one _] at this; exact this
 have hlx := R16.len_num (U.one hm) hRx
 simp only [List.length_cons, List.length_nil] at hlx
 refine l_assign rfl rfl rfl (l_nil (e_then ?_))
 refine c_keep [1, 4] (.cons rfl (.cons rfl .nil)) ?_
 refine c_seq (c_seq (c_region (l_field fo30_2 rfl rfl rfl ?_)))
 refine l_load_blk hw3 mem2 rfl rfl Tryd.underlying3 rfl rfl rfl ?_
 refine l_geq rfl rfl rfl rfl ?_
 refine l_nil (e_then ?_)
 refine c_keep [1, 4, 11] (.cons rfl (.cons rfl (.cons rfl .nil))) ?_
 first | refine c_cond rfl (fun hc0 => ?_) (fun hc0 => ?_) | refine c_condb rfl (fun hc0 => ?_) (fun hc0 => ?_)
 ·skip
  refine c_seq (c_region (l_move rfl rfl rfl (l_field fo30_2 rfl rfl rfl ?_)))
  refine l_load_blk hw3 mem2 rfl rfl Tryd.underlying3 rfl rfl rfl ?_
  refine l_turn (s := 14) (v' := .int .i64 ((exp.toNat : Nat) : Int)) rfl (congrArg (Value.int _) (by omega)) ?_
  refine l_call rfl rfl Tryd.func31 rfl rfl (.cons rfl (.cons rfl .nil)) (leftR vx lx _ hRx2 (by omega) exp.toNat (by omega) w3 (hw3.io mem0)) ?_
  rintro vy w4 ⟨_, ly, rfl, hRy, hG⟩
  have hw4 := hG _ _ _ _ hw3
  try clear hG hw3
  simp only [List.cons_append, List.nil_append] at hw4
  refine v_lit hw4 rfl rfl Tryd.underlying35 ti3 rfl (.cons rfl (by first | rfl | assumption) .nil) rfl rfl rfl (fun b3_4 w5 hw5 => ?_)
  try clear hw4
  refine l_assign rfl rfl rfl (l_assign rfl rfl rfl (l_nil (e_then ?_)))
  refine c_keep [2, 3] (.cons rfl (.cons rfl .nil)) ?_
  refine c_ret ?_
  refine e_then_ret ?_
  refine e_done2 Tryd.results14 rfl rfl ?_
  refine ⟨_, rfl, ?_⟩
  have hw6 := St.front2 hw5
  try clear hw5
  have hw7 := St.front2 hw6
  try clear hw6
  have hw8 := St.front2 hw7
  try clear hw7
  have hw9 := St.del (.tail (.tail (.tail (.tail .head)))) hw8
  try clear hw8
  have hw10 := St.del (.tail (.tail (.tail .head))) hw9
  try clear hw9
  have hw11 := St.del (.tail (.tail .head)) hw10
  try clear hw10
  exact ⟨_, _, _, [1], rfl, hRy, by rw [show (-exp).toNat = 0 by omega, Int.pow_zero]; exact R16.one1, (hw11.blk_own (by decide)).grows⟩
 ·skip
  refine c_skip (e_then ?_)
  refine c_keep [1, 4] (.cons rfl (.cons rfl .nil)) ?_
  refine c_seq (c_region (l_move rfl rfl rfl ?_))
  refine v_lit hw3 rfl rfl Tryd.underlying35 ti3 rfl (.cons rfl (by first | rfl | assumption) .nil) rfl rfl rfl (fun b4_1 w12 hw12 => ?_)
  try clear hw3
  refine l_field fo30_2 rfl rfl rfl ?_
  refine l_load_blk hw12 mem3 rfl rfl Tryd.underlying3 rfl rfl rfl ?_
  refine l_neg rfl rfl rfl (w_i64 (by omega)) ?_
  refine l_turn (s := 21) (v' := .int .i64 (((-exp).toNat : Nat) : Int)) rfl (congrArg (Value.int _) (by omega)) ?_
  refine l_call rfl rfl Tryd.func31 rfl rfl (.cons rfl (.cons rfl .nil)) (leftR _ [1] 1 R16.one1 (by simp) (-exp).toNat (by omega) w12 (hw12.ibl mem0)) ?_
  rintro vy w13 ⟨_, ly, rfl, hRy, hG⟩
  have hw13 := hG _ _ _ _ hw12
  try clear hG hw12
  simp only [List.cons_append, List.nil_append] at hw13
  refine l_assign rfl rfl rfl (l_assign rfl rfl rfl (l_nil (e_then ?_)))
  refine c_keep [2, 3] (.cons rfl (.cons rfl .nil)) ?_
  refine c_ret ?_
  refine e_done2 Tryd.results14 rfl rfl ?_
  refine ⟨_, rfl, ?_⟩
  have hw14 := St.front2 hw13
  try clear hw13
  have hw15 := St.front1 hw14
  try clear hw14
  have hw16 := St.del (.tail (.tail (.tail (.tail .head)))) hw15
  try clear hw15
  have hw17 := St.del (.tail (.tail (.tail .head))) hw16
  try clear hw16
  have hw18 := St.del (.tail (.tail .head)) hw17
  try clear hw17
  exact ⟨_, _, _, _, rfl, by rw [show exp.toNat = 0 by omega, Int.pow_zero, Int.mul_one]; exact hRx2, by rw [Int.one_mul] at hRy; exact hRy, hw18.grows⟩
theorem cmpI_ge0 {a b : Int} : 0 ≤ cmpI a b ↔ b ≤ a := by unfold cmpI; (repeat' split) <;> omega
def dl (m : Int) : Nat := (dt0 m.toNat).length
theorem dl_zero : dl 0 = 0 := by unfold dl; rw [show (0 : Int).toNat = 0 from rfl, dt0_zero]; rfl
theorem dl_pos {m : Int} (h : 0 < m) : dl m = dl (m / 10) + 1 := by unfold dl; rw [dt0_pos h, List.length_append]; rfl
theorem dl_le : ∀ {n : Nat} {m : Int}, 0 ≤ m → m < 10 ^ n → dl m ≤ n
 | 0, m, h0, h => by
  rw [show m = 0 by simp at h; omega, dl_zero]
  exact Nat.le_refl _
 | n + 1, m, h0, h => by
  rcases Int.lt_or_eq_of_le h0 with h1 | h1
  ·rw [dl_pos h1]
   rw [Int.pow_succ] at h
   have := dl_le (n := n) (m := m / 10) (by omega) (by omega)
   omega
  ·rw [← h1, dl_zero]
   omega
theorem dl_dtx {m : Int} (h : 0 < m) : (dtx m).length = dl m := by unfold dtx dl; rw [if_neg (by omega)]
end Go.Proofs.YtojjlipcjdaejaaDoor.W
