/- plain facts: decimal numbers beside floats -/
import Derived.Test.YtfomhfbmmjhljaaGreatDoorGg
import Derived.Test.YtfomhfbmmjhljaaGreatDoorNa
set_option linter.unusedVariables false
set_option linter.unusedSimpArgs false
set_option maxRecDepth 10000
namespace Go.Proofs.YtfomhfbmmjhljaaGreatDoor.W
open Go.Vc Go.RowKit Tryz
theorem p2_ (k : Nat) : (0 : Int) < 2 ^ k := Ma.pow_pos (by omega) k
/-! ### decimal numbers beside floats -/
def fN (x e : Int) : Int := x * 10 ^ (-e).toNat
def fD (y e : Int) : Int := y * 10 ^ e.toNat
theorem p10 (k : Nat) : (0 : Int) < 10 ^ k := Ma.pow_pos (by omega) k
theorem Z1C {x : Int} (hx : 0 ≤ x) (e : Int) : 0 ≤ fN x e := Int.mul_nonneg hx (Int.le_of_lt (p10 _))
theorem Z1W {y : Int} (hy : 0 < y) (e : Int) : 0 < fD y e := Int.mul_pos hy (p10 _)
theorem fN_at {x e : Int} : (0 ≤ e → fN x e = x ∧ fN x (e + 1) = x) ∧ (e < 0 → fN x e = 10 * fN x (e + 1)) := by
 unfold fN
 refine ⟨fun h => ?_, fun h => ?_⟩
 ·rw [show (-e).toNat = 0 from by omega, show (-(e + 1)).toNat = 0 from by omega]
  simp
 rw [show (-e).toNat = (-(e + 1)).toNat + 1 from by omega, Int.pow_succ, ← Int.mul_assoc, Int.mul_comm 10]
theorem fD_at {y e : Int} : (0 ≤ e → fD y (e + 1) = 10 * fD y e) ∧ (e < 0 → fD y e = y ∧ fD y (e + 1) = y) := by
 unfold fD
 refine ⟨fun h => ?_, fun h => ?_⟩
 ·rw [show (e + 1).toNat = e.toNat + 1 from by omega, Int.pow_succ, ← Int.mul_assoc, Int.mul_comm 10]
 rw [show e.toNat = 0 from by omega, show (e + 1).toNat = 0 from by omega]
 simp
theorem fstepc (x y e c : Int) : c * fD y (e + 1) ≤ fN x (e + 1) ↔ c * 10 * fD y e ≤ fN x e := by
 rcases Int.lt_or_le e 0 with h | h
 ·obtain ⟨h1, h2⟩ := (fD_at (y := y)).2 h
  rw [fN_at.2 h, h1, h2, Int.mul_right_comm]
  omega
 obtain ⟨h1, h2⟩ := (fN_at (x := x)).1 h
 rw [fD_at.1 h, h1, h2, Int.mul_assoc]
theorem fstepn (x y e c : Int) : ∀ n : Nat, c * fD y (e + n) ≤ fN x (e + n) ↔ c * 10 ^ n * fD y e ≤ fN x e
 | 0 => by simp
 | n + 1 => by
  have h := fstepc x y (e + n) c
  rw [show e + ((n + 1 : Nat) : Int) = e + n + 1 from by omega, h, fstepn x y e (c * 10) n, Int.pow_succ, Int.mul_assoc c, Int.mul_comm 10]
theorem fmono {x y e : Int} (hy : 0 < y) (n : Nat) (c : Int) (hc : 0 ≤ c) (h : fN x e < c * fD y e) : fN x (e + n) < c * fD y (e + n) := by
 rcases Int.lt_or_le (fN x (e + n)) (c * fD y (e + n)) with h1 | h1
 ·exact h1
 exfalso
 have h2 := (fstepn x y e c n).1 h1
 have hd := Z1W hy e
 have hp := p10 n
 have h3 : c * 1 ≤ c * 10 ^ n := Int.mul_le_mul_of_nonneg_left ZO hc
 have h4 : c * 1 * fD y e ≤ c * 10 ^ n * fD y e := Int.mul_le_mul_of_nonneg_right h3 (Int.le_of_lt hd)
 rw [Int.mul_one] at h4
 omega
def TopR (x y t : Int) : Prop := fD y t ≤ fN x t ∧ fN x (t + 1) < fD y (t + 1)
theorem TopR.unique {x y t u : Int} (hy : 0 < y) (h : TopR x y t) (k : TopR x y u) : t = u := by
 have key : ∀ {t u : Int}, TopR x y t → TopR x y u → ¬ t < u := fun {t u} h k hl => by
  have := fmono hy (u - (t + 1)).toNat 1 ZO (by rw [Int.one_mul]; exact h.2)
  rw [Int.one_mul, show t + 1 + ((u - (t + 1)).toNat : Int) = u from by omega] at this
  have := k.1
  omega
 rcases Int.lt_trichotomy t u with hl | hl | hl
 ·exact absurd hl (key h k)
 ·exact hl
 exact absurd hl (key k h)
theorem Z55 {x y t : Int} (hy : 0 < y) (h : TopR x y t) (n : Nat) : fN x (t + 1 - n) / fD y (t + 1 - n) < 10 ^ n := by
 refine Int.ediv_lt_of_lt_mul (Z1W hy _) ?_
 rcases Int.lt_or_le (fN x (t + 1 - n)) (10 ^ n * fD y (t + 1 - n)) with h1 | h1
 ·exact h1
 exfalso
 have := (fstepn x y (t + 1 - n) 1 n).2 (by rw [Int.one_mul]; exact h1)
 rw [Int.one_mul, show t + 1 - (n : Int) + n = t + 1 from by omega] at this
 have := h.2
 omega
theorem Z4g {x y t : Int} (hy : 0 < y) (h : TopR x y t) (n : Nat) : 10 ^ n ≤ fN x (t - n) / fD y (t - n) := by
 rw [Int.le_ediv_iff_mul_le (Z1W hy _)]
 have := (fstepn x y (t - n) 1 n).1 (by rw [Int.one_mul, show t - (n : Int) + n = t from by omega]; exact h.1)
 rwa [Int.one_mul] at this
def rdT (d : Kd) (m e : Int) (t : Int × Bool × Int) : Prop := RndR d.H (d.I - 1) (m * 10 ^ e.toNat * 2 ^ d.l) (10 ^ (-e).toNat) t
def rdP (d : Kd) (b m e : Int) : Prop :=
 ((fv d.H (b - 1) + fv d.H b) * 10 ^ (-e).toNat < 2 * (m * 10 ^ e.toNat * 2 ^ d.l) ∨ (fv d.H (b - 1) + fv d.H b) * 10 ^ (-e).toNat = 2 * (m * 10 ^ e.toNat * 2 ^ d.l) ∧ b % 2 = 0) ∧
 (2 * (m * 10 ^ e.toNat * 2 ^ d.l) < (fv d.H b + fv d.H (b + 1)) * 10 ^ (-e).toNat ∨ 2 * (m * 10 ^ e.toNat * 2 ^ d.l) = (fv d.H b + fv d.H (b + 1)) * 10 ^ (-e).toNat ∧ b % 2 = 0)
instance (d : Kd) (b m e : Int) : Decidable (rdP d b m e) := by unfold rdP; infer_instance
theorem mid_mono {H a b : Int} (hH : 0 < H) (ha : 0 ≤ a) (h : a < b) : fv H a + fv H (a + 1) + 1 ≤ fv H b + fv H (b + 1) := by
 have h1 := Z3k hH (show 0 ≤ a + 1 by omega) (show a + 1 ≤ b by omega)
 have h2 := Z3j hH ha
 have h3 := Z3j hH (b := b) ZO
 omega
theorem Z3I {H a b D : Int} (hH : 0 < H) (hD : 0 < D) (ha : 0 ≤ a) (h : a < b) : (fv H a + fv H (a + 1)) * D < (fv H b + fv H (b + 1)) * D := by
 have h1 := mid_mono hH ha h
 exact Int.mul_lt_mul_of_pos_right (by omega) hD
theorem mid_le {H a b D : Int} (hH : 0 < H) (hD : 0 < D) (ha : 0 ≤ a) (h : a ≤ b) : (fv H a + fv H (a + 1)) * D ≤ (fv H b + fv H (b + 1)) * D := by
 rcases Int.lt_or_eq_of_le h with h | h
 ·exact Int.le_of_lt (Z3I hH hD ha h)
 subst h; exact Int.le_refl _
theorem rd_unique {d : Kd} {a b m e : Int} (ha : 0 < a) (hb : 0 < b) (h : rdP d a m e) (k : rdP d b m e) : a = b := by
 have key : ∀ {a b : Int}, 0 < a → 0 < b → rdP d a m e → rdP d b m e → ¬ a < b := fun {a b} ha hb h k hl => by
  have hD := p10 (-e).toNat
  obtain ⟨_, h2⟩ := h
  obtain ⟨k1, _⟩ := k
  generalize 2 * (m * 10 ^ e.toNat * 2 ^ d.l) = N at *
  rcases Int.lt_or_eq_of_le (show a + 1 ≤ b by omega) with h3 | h3
  ·have := Z3I d.hH0 hD (a := a) (b := b - 1) ZO ZO
   rw [show b - 1 + 1 = b from by omega] at this
   omega
  have e1 : b - 1 = a := by omega
  rw [e1, ← h3] at k1
  omega
 rcases Int.lt_trichotomy a b with hl | hl | hl
 ·exact absurd hl (key ha hb h k)
 ·exact hl
 exact absurd hl (key hb ha k h)
theorem rdP_iff {d : Kd} {b m e : Int} {t : Int × Bool × Int} (hb : 0 < b ∧ b < d.I) (h : rdT d m e t) : rdP d b m e ↔ t.2.2 = 0 ∧ t.1 = b := by
 have hD := p10 (-e).toNat
 have hbd := d.bd
 have hI := d.I_lt
 unfold rdT at h
 obtain ⟨N, hN⟩ : ∃ N, m * 10 ^ e.toNat * 2 ^ d.l = N := ⟨_, rfl⟩
 obtain ⟨D, hDd⟩ : ∃ D : Int, (10 : Int) ^ (-e).toNat = D := ⟨_, rfl⟩
 rw [hDd] at hD
 rcases h with ⟨h, rfl⟩ | ⟨h, b0, h0, hG, h1, h2, rfl⟩
 ·constructor
  ·rintro ⟨_, k⟩
   rw [hN, hDd] at h k
   have := mid_le d.hH0 hD (a := b) (b := d.I - 1) ZO ZO
   rcases Int.lt_or_eq_of_le (show b ≤ d.I - 1 by omega) with h3 | h3
   ·have := Z3I d.hH0 hD (a := b) (b := d.I - 1) ZO h3
    omega
   have := hI.2.1
   rw [← h3] at h this
   omega
  rintro ⟨h3, _⟩
  exact absurd h3 (by show ¬ (34 : Int) = 0; omega)
 rw [hN, hDd] at h h1 h2
 -- where the rounded number lies
 have hc : ∀ c : Int, 0 < c → c = (if upR d.H N D b0 then b0 + 1 else b0) → rdP d c m e := fun c hc0 hc => by
  unfold rdP
  rw [hN, hDd]
  by_cases hu : upR d.H N D b0
  ·rw [if_pos hu] at hc
   subst hc
   have hl := Int.mul_lt_mul_of_pos_right (Z3j d.hH0 (b := b0 + 1) ZO) hD
   unfold upR at hu
   rw [show b0 + 1 - 1 = b0 from by omega, Int.add_mul (fv d.H (b0 + 1))]
   omega
  rw [if_neg hu] at hc
  subst hc
  have hl := Int.mul_lt_mul_of_pos_right (Z3j d.hH0 (b := c - 1) ZO) hD
  rw [show c - 1 + 1 = c from by omega] at hl
  unfold upR at hu
  rw [Int.add_mul (fv d.H (c - 1))]
  omega
 have hz : ∀ c : Int, c = (if upR d.H N D b0 then b0 + 1 else b0) → c = 0 → ¬ rdP d b m e := fun c hc hc0 => by
  rintro ⟨k, _⟩
  rw [hN, hDd] at k
  by_cases hu : upR d.H N D b0
  ·rw [if_pos hu] at hc; omega
  rw [if_neg hu] at hc
  have hb0 : b0 = 0 := by omega
  subst hb0
  have := mid_le d.hH0 hD (a := 0) (b := b - 1) ZO ZO
  rw [show b - 1 + 1 = b from by omega] at this
  unfold upR at hu
  rcases Int.lt_or_eq_of_le (show 1 ≤ b by omega) with h3 | h3
  ·have := Z3I d.hH0 hD (a := 0) (b := b - 1) ZO ZO
   rw [show b - 1 + 1 = b from by omega] at this
   omega
  rw [← h3] at k
  rw [show (1 : Int) - 1 = 0 from rfl] at k
  rw [show (0 : Int) + 1 = 1 from rfl] at hu
  omega
 obtain ⟨c, hcd⟩ : ∃ c, c = (if upR d.H N D b0 then b0 + 1 else b0) := ⟨_, rfl⟩
 have hcn : 0 ≤ c := by rw [hcd]; split <;> omega
 show rdP d b m e ↔ (0 : Int) = 0 ∧ (if upR d.H (m * 10 ^ e.toNat * 2 ^ d.l) (10 ^ (-e).toNat) b0 then b0 + 1 else b0) = b
 rw [hN, hDd, ← hcd]
 constructor
 ·intro k
  refine ⟨rfl, ?_⟩
  rcases Int.lt_or_eq_of_le hcn with h3 | h3
  ·exact rd_unique h3 hb.1 (hc c h3 hcd) k
  exact absurd k (hz c hcd h3.symm)
 rintro ⟨_, h3⟩
 rw [← h3]
 exact hc c ZO hcd
theorem fv_gap (d : Kd) {b : Int} (hb : 0 < b) : fv d.H b ≤ 9007199254740992 * (fv d.H b - fv d.H (b - 1)) ∧ fv d.H (b - 1) < fv d.H b := by
 obtain ⟨x, u, _, h1, h2, _, e1, e2⟩ := fv_form d.hH0 (b := b - 1) ZO
 rw [show b - 1 + 1 = b from by omega] at e2
 have hp := Ma.pow_pos (show (0 : Int) < 2 by omega) u
 have hH : 2 * d.H ≤ 9007199254740992 := by cases d <;> decide
 rw [e1, e2, Int.add_mul, Int.one_mul]
 have h3 : (x + 1) * 2 ^ u ≤ 9007199254740992 * 2 ^ u := Int.mul_le_mul_of_nonneg_right ZO (Int.le_of_lt hp)
 rw [Int.add_mul, Int.one_mul] at h3
 omega
theorem rd_low {d : Kd} {b x y e : Int} (hb : 0 < b ∧ b < d.I) (hx : 0 ≤ x) (hy : 0 < y) (hv : fv d.H b * y = x * 2 ^ d.l) (h17 : 100000000000000000 ≤ fN x e / fD y e) : rdP d b (fN x e / fD y e) e := by
 obtain ⟨m, hm⟩ : ∃ m, fN x e / fD y e = m := ⟨_, rfl⟩
 rw [hm] at h17 ⊢
 have hl := Ma.pow_pos (show (0 : Int) < 2 by omega) d.l
 have hD := Z1W hy e
 have e0 := Int.emod_add_mul_ediv (fN x e) (fD y e)
 have e1 := Int.emod_nonneg (fN x e) (show fD y e ≠ 0 by omega)
 have e2 := Int.emod_lt_of_pos (fN x e) hD
 rw [hm] at e0
 have h1 : fD y e * m ≤ fN x e := by omega
 have h2 : fN x e < fD y e * m + fD y e := by omega
 unfold fD fN at h1 h2
 obtain ⟨A, hA⟩ : ∃ A : Int, (10 : Int) ^ e.toNat = A := ⟨_, rfl⟩
 obtain ⟨D, hDd⟩ : ∃ D : Int, (10 : Int) ^ (-e).toNat = D := ⟨_, rfl⟩
 have hA0 : 0 < A := hA ▸ p10 _
 have hD0 : 0 < D := hDd ▸ p10 _
 rw [hA, hDd] at h1 h2
 obtain ⟨G, hG⟩ : ∃ G : Int, A * 2 ^ d.l = G := ⟨_, rfl⟩
 have hG0 : 0 < G := hG ▸ Int.mul_pos hA0 hl
 obtain ⟨F, hF⟩ : ∃ F : Int, fv d.H b = F := ⟨_, rfl⟩
 obtain ⟨F1, hF1⟩ : ∃ F1 : Int, fv d.H (b - 1) = F1 := ⟨_, rfl⟩
 have hgap := fv_gap d hb.1
 rw [hF, hF1] at hgap
 rw [hF] at hv
 have hN : m * A * 2 ^ d.l = m * G := by rw [← hG, Int.mul_assoc]
 -- both sides times 2^l, over y
 have k1 : m * G * y ≤ F * D * y := by
  have := Int.mul_le_mul_of_nonneg_right h1 (Int.le_of_lt hl)
  rw [show y * A * m * 2 ^ d.l = m * G * y from by rw [← hG]; simp only [Int.mul_assoc, Int.mul_comm, Int.mul_left_comm], show x * D * 2 ^ d.l = F * D * y from by rw [Int.mul_right_comm, ← hv]; simp only [Int.mul_assoc, Int.mul_comm, Int.mul_left_comm]] at this
  exact this
 have k2 : F * D * y < (m * G + G) * y := by
  have := Int.mul_lt_mul_of_pos_right h2 hl
  rw [show (y * A * m + y * A) * 2 ^ d.l = (m * G + G) * y from by rw [← hG, Int.add_mul, Int.add_mul]; congr 1 <;> simp only [Int.mul_assoc, Int.mul_comm, Int.mul_left_comm], show x * D * 2 ^ d.l = F * D * y from by rw [Int.mul_right_comm, ← hv]; simp only [Int.mul_assoc, Int.mul_comm, Int.mul_left_comm]] at this
  exact this
 have j1 : m * G ≤ F * D := Int.le_of_mul_le_mul_right k1 hy
 have j2 : F * D < m * G + G := Int.lt_of_mul_lt_mul_right k2 (Int.le_of_lt hy)
 have j3 : 100000000000000000 * G ≤ m * G := Int.mul_le_mul_of_nonneg_right h17 (Int.le_of_lt hG0)
 have j4 : F * D ≤ 9007199254740992 * ((F - F1) * D) := by
  have := Int.mul_le_mul_of_nonneg_right hgap.1 (Int.le_of_lt hD0)
  rwa [Int.mul_assoc] at this
 have j5 : (F - F1) * D = F * D - F1 * D := Int.sub_mul ..
 have hbd := d.bd
 refine (rdP_iff (t := if m * G = F * D then (b, true, 0) else (b, false, 0)) hb ?_).2 ⟨by split <;> rfl, by split <;> rfl⟩
 unfold rdT
 rw [hA, hDd, hN]
 split
 ·rename_i h
  exact near_exact hD0 ⟨ZO, ZO⟩ (by rw [hF, h])
 rename_i h
 have := near_up (d := d) (N := m * G) (D := D) (b := b - 1) hD0 ⟨ZO, ZO⟩ (by rw [hF1]; omega) (.inr (by rw [show b - 1 + 1 = b from by omega, hF]; omega)) (.inl (by rw [show b - 1 + 1 = b from by omega, hF, hF1, Int.add_mul]; omega))
 rw [if_neg ZO, show b - 1 + 1 = b from by omega] at this
 exact this
theorem val_frac (d : Kd) {b : Int} (hb : 0 ≤ b ∧ b < d.I) : fv d.H b * 2 ^ (-(splE d b)).toNat = splM d b * 2 ^ (splE d b).toNat * 2 ^ d.l := by
 have hfs := fv_spl d hb
 rw [hfs.2.2.2.2.1, Int.mul_assoc, ← Int.pow_add, Int.mul_assoc, ← Int.pow_add]
 congr 2
 omega
def estE (L : Int) : Int := (L * 30103).tdiv 100000 - 2
def estP (L : Int) : Prop := 10 ^ (estE L).toNat * 2 ^ (1 - L).toNat ≤ (10 : Int) ^ (-(estE L)).toNat * 2 ^ (L - 1).toNat ∧ 2 ^ (L + 1).toNat * 10 ^ (-(estE L)).toNat ≤ (18446744073709551616 : Int) * 10 ^ (estE L).toNat * 2 ^ (-(L + 1)).toNat ∧ -400 ≤ estE L ∧ estE L ≤ 340
instance (L : Int) : Decidable (estP L) := by unfold estP; infer_instance
set_option maxRecDepth 100000 in
theorem est_all : ∀ i : Fin 2200, estP ((i.val : Int) - 1100) := by decide +kernel
theorem est_ok {x y : Int} {a b : Nat} (ha : 2 ^ a ≤ x ∧ x < 2 ^ (a + 1)) (hb : 2 ^ b ≤ y ∧ y < 2 ^ (b + 1)) {L : Int} (hL : L = (a : Int) - b) (hr : -1100 ≤ L ∧ L < 1100) :
  fD y (estE L) ≤ fN x (estE L) ∧ fN x (estE L) < 18446744073709551616 * fD y (estE L) ∧ -400 ≤ estE L ∧ estE L ≤ 340 := by
 have h := est_all ⟨(L + 1100).toNat, ZO⟩
 rw [show (((L + 1100).toNat : Nat) : Int) - 1100 = L from by omega] at h
 obtain ⟨h1, h2, h3, h4⟩ := h
 have p2' : ∀ k : Nat, (0 : Int) < 2 ^ k := fun k => Ma.pow_pos ZO k
 refine ⟨?_, ?_, h3, h4⟩
 ·unfold fD fN
  obtain ⟨A, hA⟩ : ∃ A : Int, (10 : Int) ^ (estE L).toNat = A := ⟨_, rfl⟩
  obtain ⟨D, hD⟩ : ∃ D : Int, (10 : Int) ^ (-(estE L)).toNat = D := ⟨_, rfl⟩
  have hA0 : 0 < A := hA ▸ p10 _
  have hD0 : 0 < D := hD ▸ p10 _
  rw [hA, hD] at h1 ⊢
  have k1 : y * A < 2 ^ (b + 1) * A := Int.mul_lt_mul_of_pos_right hb.2 hA0
  have k2 : 2 ^ a * D ≤ x * D := Int.mul_le_mul_of_nonneg_right ha.1 (Int.le_of_lt hD0)
  have k3 : 2 ^ (b + 1) * A ≤ 2 ^ a * D := by
   rcases Int.lt_or_le L 1 with hl | hl
   ·rw [show (L - 1).toNat = 0 from by omega, Int.pow_zero, Int.mul_one] at h1
    have := Int.mul_le_mul_of_nonneg_left h1 (Int.le_of_lt (p2' a))
    rw [Int.mul_left_comm, ← Int.pow_add, show a + (1 - L).toNat = b + 1 from by omega, Int.mul_comm A] at this
    exact this
   rw [show (1 - L).toNat = 0 from by omega, Int.pow_zero, Int.mul_one] at h1
   have := Int.mul_le_mul_of_nonneg_left h1 (Int.le_of_lt (p2' (b + 1)))
   rw [Int.mul_left_comm, ← Int.pow_add, show b + 1 + (L - 1).toNat = a from by omega, Int.mul_comm D] at this
   exact this
  omega
 unfold fD fN
 obtain ⟨A, hA⟩ : ∃ A : Int, (10 : Int) ^ (estE L).toNat = A := ⟨_, rfl⟩
 obtain ⟨D, hD⟩ : ∃ D : Int, (10 : Int) ^ (-(estE L)).toNat = D := ⟨_, rfl⟩
 have hA0 : 0 < A := hA ▸ p10 _
 have hD0 : 0 < D := hD ▸ p10 _
 rw [hA, hD] at h2 ⊢
 have k1 : x * D < 2 ^ (a + 1) * D := Int.mul_lt_mul_of_pos_right ha.2 hD0
 have k2 : 2 ^ b * A ≤ y * A := Int.mul_le_mul_of_nonneg_right hb.1 (Int.le_of_lt hA0)
 have k3 : 2 ^ (a + 1) * D ≤ 18446744073709551616 * (2 ^ b * A) := by
  rcases Int.lt_or_le (L + 1) 0 with hl | hl
  ·rw [show (L + 1).toNat = 0 from by omega, Int.pow_zero, Int.one_mul] at h2
   have := Int.mul_le_mul_of_nonneg_left h2 (Int.le_of_lt (p2' (a + 1)))
   rw [Int.mul_left_comm, ← Int.pow_add, show a + 1 + (-(L + 1)).toNat = b from by omega, Int.mul_assoc, Int.mul_comm A] at this
   exact this
  rw [show (-(L + 1)).toNat = 0 from by omega, Int.pow_zero, Int.mul_one] at h2
  have := Int.mul_le_mul_of_nonneg_left h2 (Int.le_of_lt (p2' b))
  rw [← Int.mul_assoc, ← Int.pow_add, show b + (L + 1).toNat = a + 1 from by omega, Int.mul_left_comm] at this
  exact this
 omega
theorem shlY {a : Value} {la : List Int} {x : Int} {k : Nat} (hc : Ma.Cn 18446744073709551616 la x) (hL : la.length ≤ 68719476736) (hb : Ma.blen x + k ≤ 8192) {w : World} (ha : IV w a (ints .u64 la)) :
  Z0h P 56 [a, .int .i64 (k : Int)] w fun r w' => ∃ v ls, r = .tuple #[v, .int .i64 0] ∧ Ma.Cn 18446744073709551616 ls (x * 2 ^ k) ∧ Grow w w' [As.ri 22 .u64 v ls] := by
 rcases Int.lt_or_eq_of_le (hc.nonneg ZO) with hx | hx
 ·exact shlZ hc hx hL hb ha
 refine (ShlN a la (cnU hc) hL k w ha).mono ?_
 intro r w' h
 have hb0 := Ma.blen_nonneg x
 have e : shlS (nv la) k = (0, 0) := by
  unfold shlS
  rw [show nv la = x from hc.val, if_neg ZO, if_neg ZO, if_pos hx.symm]
 rw [e] at h
 rw [← hx, Int.zero_mul]
 exact h
theorem Z2h (k : Nat) : Ma.blen ((10 : Int) ^ k) ≤ (4 * k + 1 : Nat) := by
 refine (Ma.blen_le_iff (Int.le_of_lt (p10 k)) _).2 ?_
 have h1 : (10 : Int) ^ k ≤ 16 ^ k := by
  induction k with
  | zero => simp
  | succ n ih =>
   rw [Int.pow_succ, Int.pow_succ]
   have := Ma.pow_pos (show (0 : Int) < 16 by omega) n
   omega
 have h2 : (16 : Int) ^ k = 2 ^ (4 * k) := by rw [Int.pow_mul]; rfl
 have h3 : (2 : Int) ^ (4 * k + 1) = 2 ^ (4 * k) * 2 := Int.pow_succ ..
 have h4 := p2_ (4 * k)
 omega
theorem Z4r (k : Nat) (hk : k ≤ 1200) (w : World) : Z0h P 78 [.int .u64 10, .int .i64 (k : Int)] w fun r w' => ∃ v ls, r = .tuple #[v, .int .i64 0] ∧ Ma.Cn 18446744073709551616 ls (10 ^ k) ∧ Grow w w' [As.ri 22 .u64 v ls] := by
 refine (powN 10 k ZO ZO w).mono ?_
 intro r w' h
 have hb := Z2h k
 rw [Z3m ZO (by rw [Int.toNat_natCast]; omega), Int.toNat_natCast] at h
 exact h
theorem mulZ {a b : Value} {la lb : List Int} {x y : Int} (hc : Ma.Cn 18446744073709551616 la x) (hd : Ma.Cn 18446744073709551616 lb y) {m n : Nat} (hx : Ma.blen x ≤ m) (hy : Ma.blen y ≤ n) (hmn : m + n ≤ 8192) {w : World} (ha : IV w a (ints .u64 la)) (hb : IV w b (ints .u64 lb)) :
  Z0h P 60 [a, b] w fun r w' => ∃ v ls, r = .tuple #[v, .int .i64 0] ∧ Ma.Cn 18446744073709551616 ls (x * y) ∧ Grow w w' [As.ri 22 .u64 v ls] := by
 have hm := Z1X (hc.nonneg ZO) (hd.nonneg ZO) hx hy
 refine (mulC hc hd ZO ZO ha hb).mono ?_
 intro r w' h
 rw [if_neg ZO, if_neg ZO] at h
 exact h
theorem Z0Y {l : List Int} {n : Int} (h : Ma.Cn 18446744073709551616 l n) {k : Nat} (hb : Ma.blen n ≤ k) : 64 * l.length ≤ k + 64 := Z30 h hb
theorem timesF (v : Value) (l : List Int) (x e : Int) (hc : Ma.Cn 18446744073709551616 l (x)) (hx : Ma.blen x ≤ (3000 : Nat)) (he : -1200 ≤ e ∧ e ≤ 1200) (w : World) (hv : IV w v (ints .u64 l)) :
  Z0h P 59 [v, .int .i64 e] w fun r w' => ∃ vn ln vd ld, r = .agg #[vn, vd] ∧ Ma.Cn 18446744073709551616 ln (x * 10 ^ e.toNat) ∧ Ma.Cn 18446744073709551616 ld (10 ^ (-e).toNat) ∧ Grow w w' [As.ri 22 .u64 vd ld, As.ri 22 .u64 vn ln] := by
 refine Z0n func59 rfl ntmps59 rfl ?_
 have H0 := St.start w
 refine Z03 (Z00 ?_)
 refine Z0z H0 ta107 rfl rfl (fun b0_0 w1 H1 => ?_)
 refine Z02 (Z01 (Z03 (Z00 (Zm ?_))))
 refine Z1m rfl rfl rfl rfl ?_
 refine Z0u (s := 10) (v' := .int .i64 ((e.toNat : Nat) : Int)) rfl (congrArg (Value.int _) ZO) ?_
 refine Zc func78 (Z4r (e).toNat ZO w1) ?_
 rintro _ w2 ⟨vu, lu, rfl, hcu, hG⟩
 have H2 := hG _ _ _ _ H1
 simp only [Zca, Zna] at H2
 refine Zm ?_
 refine Zx (Zx (Zg (Zg (Z02 (Z01 (Z03 (Z00 ?_)))))))
 refine Z0D rfl rfl pl107 ta107 .nil ?_
 refine Z0z H2 ta107 rfl rfl (fun b2_1 w3 H3 => ?_)
 refine Z09 H3 .head (.zero (.zero .nil)) rfl Z4N rfl rfl ZC (fun w4 H4 => ?_)
 refine Z02 (Z01 ?_)
 refine Zk [0, 1, 4, 5, 7] ?_
 refine Z03 (Z00 (Zm (Zm ?_)))
 refine Zc func60 (mulZ (m := 3000) (n := 4801) hc hcu hx (by have := Z2h e.toNat; omega) ZO (H4.iarg hv) (H4.io mem1)) ?_
 rintro _ w5 ⟨vn, ln, rfl, hcn, hG⟩
 have H5 := hG _ _ _ _ H4
 simp only [Zca, Zna] at H5
 have hone1 := Z0B (H5.io mem0)
 refine Zm ?_
 refine Zx (Zx (Z08 Z2O rfl rfl rfl ?_))
 refine Z0p H5 (.tail .head) (by repeat (first | exact .zero | apply Z14.succ)) rfl tz105 rfl rfl ZR (fun w6 H6 => ?_)
 refine Z02 (Z01 (Z03 (Z00 (Zm ?_))))
 refine Z1K rfl rfl rfl (Z0i ZO) ?_
 refine Z1m rfl rfl rfl rfl ?_
 refine Z0u (s := 25) (v' := .int .i64 (((-e).toNat : Nat) : Int)) rfl (congrArg (Value.int _) ZO) ?_
 refine Zc func78 (Z4r (-e).toNat ZO w6) ?_
 rintro _ w7 ⟨vd, ld, rfl, hcd, hG⟩
 have H7 := hG _ _ _ _ H6
 simp only [Zca, Zna] at H7
 have hone2 := Z0B (H7.io mem0)
 refine Zm ?_
 refine Zx (Zx (Z08 Z2P rfl rfl rfl ?_))
 refine Z0p H7 (.tail (.tail .head)) (by repeat (first | exact .zero | apply Z14.succ)) rfl tz105 rfl rfl ZR (fun w8 H8 => ?_)
 refine Z02 (Z01 ?_)
 refine Zk [4, 7] ?_
 refine Z03 (Z00 ?_)
 refine Z0b H8 mem2 rfl rfl underlying107 rfl Z4N rfl (.take (.take .nil)) ?_
 refine Z09 H8 (.tail (.tail (.tail (.tail .head)))) (.zero (.zero .nil)) rfl Z4N rfl rfl ZC (fun w9 H9 => ?_)
 refine Z02 (Z01 ?_)
 refine Z0f ?_
 refine e_doneC results59 (.cell rfl (Z0g H9 mem4 underlying107 rfl Z4N (.take (.take .nil))) .nil) ?_
 refine ⟨_, rfl, ?_⟩
 have H14 := St.del (.tail (.tail .head)) (St.del (.tail (.tail (.tail .head))) (St.del (.tail (.tail (.tail (.tail .head)))) (St.front1 (St.front1 H9))))
 exact ⟨_, _, _, _, rfl, hcn, hcd, H14.grows⟩
def hfS (x y e : Int) : Int := cmpI (2 * (fN x e % fD y e)) (fD y e)
theorem fD_blen {y e : Int} (hy0 : 0 < y) (hy : Ma.blen y ≤ (1200 : Nat)) (he : e ≤ 420) : Ma.blen (fD y e) ≤ (2881 : Nat) := by
 have h1 := Z2h e.toNat
 exact Int.le_trans (Z1X (Int.le_of_lt hy0) (Int.le_of_lt (p10 _)) hy h1) (by omega)
theorem Z4h {x e : Int} (hx0 : 0 ≤ x) (hx : Ma.blen x ≤ (1200 : Nat)) (he : -420 ≤ e) : Ma.blen (fN x e) ≤ (2881 : Nat) := by
 have h1 := Z2h (-e).toNat
 exact Int.le_trans (Z1X hx0 (Int.le_of_lt (p10 _)) hx h1) (by omega)
theorem wholeF (vx vy : Value) (lx ly : List Int) (x y : Int) (hcx : Ma.Cn 18446744073709551616 lx (x)) (hcy : Ma.Cn 18446744073709551616 ly (y)) (hx : Ma.blen x ≤ (1200 : Nat)) (hy : Ma.blen y ≤ (1200 : Nat)) (hy0 : 0 < y) (e : Int) (he : -420 ≤ e ∧ e ≤ 420) (w : World) (hvx : IV w vx (ints .u64 lx)) (hvy : IV w vy (ints .u64 ly)) :
  Z0h P 35 [.agg #[vx, vy], .int .i64 e] w fun r w' => r = .tuple #[.int .u64 (fN x e / fD y e % 18446744073709551616), .int .i64 (hfS x y e)] ∧ Grow w w' [] := by
 refine Z0n func35 rfl ntmps35 rfl ?_
 have H0 := St.start w
 have hx0 := hcx.nonneg ZO
 have hD0 := Z1W hy0 e
 have hN0 := Z1C hx0 e
 have hDb := fD_blen hy0 hy he.2
 have hNb := Z4h hx0 hx he.1
 have hlx := Z0Y hcx hx
 have hly := Z0Y hcy hy
 have hone1 := Z0B hvx
 have hone2 := Z0B hvy
 refine Z03 (Z00 ?_)
 refine Z1z H0 rfl rfl rfl (fun b0_0 w1 H1 => ?_)
 refine Zg (Zg (Z02 (Z01 (Z03 (Z00 (Z08 Z2O rfl rfl rfl ?_))))))
 refine Z04 H1 mem0 rfl rfl underlying105 rfl rfl rfl ?_
 refine Zm ?_
 refine Z1K rfl rfl rfl (Z0i ZO) ?_
 refine Zc func59 (timesF vx lx x (0 - e) hcx ZO ZO w1 (H1.iarg hvx)) ?_
 rintro _ w2 ⟨vn, ln, vd, ld, rfl, hcn, hcd, hG⟩
 have H2 := hG _ _ _ _ H1
 simp only [Zca, Zna] at H2
 have hnn := Z0B (H2.io mem0)
 have hnd := Z0B (H2.io mem1)
 rw [show (-(0 - e) : Int) = e from by omega] at hcd
 rw [show (0 - e : Int) = -e from by omega] at hcn
 have hcn : Ma.Cn 18446744073709551616 ln (fN x e) := hcn
 have hlln := Z0Y hcn hNb
 refine Z0z H2 ta107 rfl rfl (fun b1_5 w3 H3 => ?_)
 refine Z09 H3 .head (.zero (.zero .nil)) rfl Z4N rfl rfl ZC (fun w4 H4 => ?_)
 refine Z02 (Z01 ?_)
 refine Zk [2, 6] ?_
 refine Z03 (Z00 (Z08 Z2P rfl rfl rfl ?_))
 refine Z04 H4 mem3 rfl rfl underlying105 rfl rfl rfl ?_
 refine Z08 Z2P rfl rfl rfl ?_
 refine Z04 H4 mem0 rfl rfl underlying105 rfl rfl rfl ?_
 refine Zc func60 (mulZ (m := 1200) (n := 1681) hcy hcd hy (by have := Z2h (e).toNat; omega) ZO (H4.iarg hvy) (H4.io mem1)) ?_
 rintro _ w5 ⟨vp, lp, rfl, hcp, hG⟩
 have H5 := hG _ _ _ _ H4
 simp only [Zca, Zna] at H5
 have hcp : Ma.Cn 18446744073709551616 lp (fD y e) := hcp
 have hllp := Z0Y hcp hDb
 refine Zm ?_
 refine Zx (Zx (Zg (Zg (Z02 (Z01 (Z03 (Z00 (Z08 Z2O rfl rfl rfl ?_))))))))
 refine Z04 H5 mem1 rfl rfl underlying105 rfl rfl rfl ?_
 refine Zm ?_
 refine Zc func61 (divZ hcn hcp ZO ZO ZO ZO ZO (H5.io mem3) (H5.io mem0)) ?_
 rintro _ w6 ⟨vq, vr, lq, lr, rfl, hcq, hcr, hG⟩
 have H6 := hG _ _ _ _ H5
 simp only [Zca, Zna] at H6
 have hrb := Int.emod_lt_of_pos (fN x e) hD0
 have hr0 := Int.emod_nonneg (fN x e) (show fD y e ≠ 0 by omega)
 have hblr := Ma.blen_mono hr0 (Int.le_of_lt hrb)
 have hllr := Z0Y hcr (k := 2881) ZO
 refine Zm ?_
 refine Zx (Zx (Zx (Zg (Zg (Zg (Z02 (Z01 ?_)))))))
 refine Zk [7, 9, 10] ?_
 refine Z03 (Z00 (Zm ?_))
 refine Zc func56 (shlY (k := 1) hcr ZO ZO (H6.io mem1)) ?_
 rintro _ w7 ⟨vs, ls, rfl, hcs, hG⟩
 have H7 := hG _ _ _ _ H6
 simp only [Zca, Zna] at H7
 have hcs2 : Ma.Cn 18446744073709551616 ls (2 * (fN x e % fD y e)) := by
  have := hcs
  rw [show fN x e % fD y e * 2 ^ 1 = 2 * (fN x e % fD y e) from by omega] at this
  exact this
 have hblq : Ma.blen (2 * (fN x e % fD y e)) ≤ (2883 : Nat) := by
  have := Z1X (x := fN x e % fD y e) (y := 2) hr0 ZO (m := 2881) (n := 2) ZO (by decide)
  rw [Int.mul_comm] at this
  exact this
 have hlls := Z0Y hcs2 (k := 2883) ZO
 refine Zm ?_
 refine Zx (Zx (Zg (Z02 (Z01 (Z03 (Z03 (Z00 (Zm ?_))))))))
 refine Z0K rfl rfl underlying105 rfl (by first | exact H7.io mem0 | exact H7.io mem1 | exact H7.io mem2 | exact H7.io mem3 | exact H7.ibl mem4 | exact H7.io mem5 | exact H7.io mem6 | exact H7.ibl mem7 | exact H7.iarg hvx | exact H7.iarg hvy | assumption) ?_
 refine Ze ?_
 refine Z02 (Z01 ?_)
 refine Zk [7, 9, 10, 40] ?_
 (first | refine Z0a rfl ?_ ?_ | refine Z06 rfl ?_ ?_) <;> intro hc0
 ·refine Z03 (Z00 (Zm (Zm ?_)))
  refine Zc func62 (cmpN vs vp ls lp (cnU hcs) (cnU hcp) ZO ZO w7 (H7.io mem0) (H7.io mem3)) ?_
  rintro _ w8 ⟨rfl, hG⟩
  have H8 := hG _ _ _ _ H7
  simp only [Zca, Zna] at H8
  refine Zg (Zg (Z02 (Z01 ?_)))
  refine Z0f ?_
  refine Z05 ?_
  refine Z0t results35 rfl rfl ?_
  refine ⟨_, rfl, ?_⟩
  have H16 := St.del .head (St.del (.tail .head) (St.del (.tail (.tail .head)) (St.del (.tail (.tail (.tail .head))) (St.del (.tail (.tail (.tail (.tail .head)))) (St.del (.tail (.tail (.tail (.tail (.tail .head))))) (St.del (.tail (.tail (.tail (.tail (.tail (.tail .head)))))) (St.del (.tail (.tail (.tail (.tail (.tail (.tail (.tail .head))))))) H8)))))))
  have hlq0 : lq = [] := List.eq_nil_of_length_eq_zero ZO
  have hq0 : fN x e / fD y e = 0 := by
   rw [← hcq.val, hlq0]
   rfl
  refine ⟨?_, H16.grows⟩
  unfold hfS
  rw [hq0, ← hcs2.val, ← hcp.val]
  all_goals rfl
 refine Z0c (Z01 ?_)
 refine Zk [7, 9, 10] ?_
 refine Z03 ?_
 have H17 := H7.drewn
 have hUq := cnU hcq
 have hq1 : 0 < lq.length := by omega
 obtain ⟨A7, c7, hvq7⟩ := (H17.io mem1).lies (by simp; omega)
 refine Z1t (n := 8) [Zz,Zz,Zz,Zz,Zz,Zz,Zz,Zz] (fun wS => IS wS .u64 vq lq) ZK rfl rfl ?_
 apply Zu (L' := [Zy,Zz,Zz,Zz,Zz,Zz,Zz,Zz]) 0 (H17.io mem1)
 ·intro wS sS
  refine Zm (Z02 ?_)
  exact Z0d rfl
 apply Zu (L' := [Zy,Zy,Zz,Zz,Zz,Zz,Zz,Zz]) 1 (H17.io mem1)
 ·intro wS sS
  refine Z1d (j := 0) rfl rfl underlying105 tz22 rfl rfl hvq7 ZP ZI ?_
  refine Z02 ?_
  exact Z0d rfl
 apply Zu (L' := [Zy,Zy,Zy,Zz,Zz,Zz,Zz,Zz]) 2 (H17.io mem1)
 ·intro wS sS
  refine Z1Z rfl rfl underlying22 rfl hvq7 (by first | exact sS | exact H17.io mem0 | exact H17.io mem1 | exact H17.io mem2 | exact H17.io mem3 | exact H17.ibl mem4 | exact H17.io mem5 | exact H17.io mem6 | exact H17.ibl mem7 | exact H17.iarg hvx | exact H17.iarg hvy | assumption) ZA ZI (fun hb7_2 => ?_)
  refine Z02 ?_
  exact Z0d rfl
 apply Zu (L' := [Zy,Zy,Zy,Zy,Zz,Zz,Zz,Zz]) 3 (H17.io mem1)
 ·intro wS sS
  refine Zm (Z02 ?_)
  exact Z0d rfl
 apply Zu (L' := [Zy,Zy,Zy,Zy,Zy,Zz,Zz,Zz]) 4 (H17.io mem1)
 ·intro wS sS
  refine Zm (Z02 ?_)
  exact Z0d rfl
 refine Z0O (L' := [Zy,Zy,Zy,Zy,Zy,Zy,Zz,Zz]) 5 ZK rfl rfl ?_
 refine Zc func62 (cmpN vs vp ls lp (cnU hcs) (cnU hcp) ZO ZO w7.drew (H17.io mem0) (H17.io mem3)) ?_
 rintro _ w18 ⟨rfl, hG⟩
 have H18 := hG _ _ _ _ H17
 simp only [Zca, Zna] at H18
 refine Z02 ?_
 refine Z0F (H18.io mem1) ?_
 apply Zu (L' := [Zy,Zy,Zy,Zy,Zy,Zy,Zy,Zz]) 6 (H18.io mem1)
 ·intro wS sS
  refine Zg (Z02 ?_)
  exact Z0d rfl
 apply Zu (L' := [Zy,Zy,Zy,Zy,Zy,Zy,Zy,Zy]) 7 (H18.io mem1)
 ·intro wS sS
  refine Zg (Z02 ?_)
  exact Z0d rfl
 refine Z0W ZK ?_
 refine Z01 ?_
 refine Z0f ?_
 refine Z0t results35 rfl rfl ?_
 refine ⟨_, rfl, ?_⟩
 have H26 := St.del .head (St.del (.tail .head) (St.del (.tail (.tail .head)) (St.del (.tail (.tail (.tail .head))) (St.del (.tail (.tail (.tail (.tail .head)))) (St.del (.tail (.tail (.tail (.tail (.tail .head))))) (St.del (.tail (.tail (.tail (.tail (.tail (.tail .head)))))) (St.del (.tail (.tail (.tail (.tail (.tail (.tail (.tail .head))))))) H18)))))))
 refine ⟨?_, H26.grows⟩
 have hlim := limb_of (cnU hcq) 0
 rw [Int.pow_zero, Int.ediv_one, show nv lq = _ from hcq.val] at hlim
 unfold hfS
 rw [← hlim, ← hcs2.val, ← hcp.val]
theorem spl_any {k a : Int} {d : Kd} (hk : kd k = some d) (ha : 0 ≤ a ∧ a < 2 * d.S) (hf : a % d.S < d.I) : splF k a = (decide (d.S ≤ a), splM d (a % d.S), splE d (a % d.S), 0) := by
 have hbd := d.bd
 have hm := Z2L d ha
 have he : a % d.S % d.S = a % d.S := Int.emod_eq_of_lt ZO ZO
 unfold splF
 rw [Z1p hk (Z1M hk ha.2), if_neg ZO]
 unfold splM splE
 rw [he]
theorem sg_back {d : Kd} {a : Int} (ha : 0 ≤ a ∧ a < 2 * d.S) (ex : Bool) : sgR d (decide (d.S ≤ a)) (a % d.S, ex, 0) = (a, ex, 0) := by
 rw [Z3u rfl]
 have hm := Z2L d ha
 by_cases h : d.S ≤ a
 ·rw [decide_eq_true h, if_pos rfl]
  simp only
  rw [show a % d.S + d.S = a by omega]
 rw [decide_eq_false h, if_neg (by decide)]
 simp only
 rw [show a % d.S = a by omega]
theorem join_back {k a : Int} {d : Kd} (hk : kd k = some d) (ha : 0 ≤ a ∧ a < 2 * d.S) (hf : a % d.S < d.I) : Z2l k (decide (d.S ≤ a)) (splM d (a % d.S)) (splE d (a % d.S)) (a, true, 0) := by
 have hbd := d.bd
 have hm := Z2L d ha
 have hb : 0 ≤ a % d.S ∧ a % d.S < d.I := by omega
 have hfs := fv_spl d hb
 rw [← sg_back ha true]
 refine Z2l.is hk ?_
 rw [show max (min (splE d (a % d.S)) 2000) (-2000) = splE d (a % d.S) by omega]
 refine near_exact (p2 _) ⟨hb.1, ZO⟩ ?_
 rw [hfs.2.2.2.2.1, Int.mul_assoc, ← Int.pow_add, Int.mul_assoc, ← Int.pow_add]
 congr 2
 omega
theorem top_exists {x y e : Int} (hy : 0 < y) : ∀ (n : Nat), fD y e ≤ fN x e → fN x e < 10 ^ n * fD y e → ∃ t, TopR x y t ∧ e ≤ t ∧ t < e + n
 | 0, h1, h2 => by simp at h2; omega
 | n + 1, h1, h2 => by
  rcases Int.lt_or_le (fN x (e + 1)) (fD y (e + 1)) with h3 | h3
  ·exact ⟨e, ⟨h1, h3⟩, ZO, ZO⟩
  have h4 : fN x (e + 1) < 10 ^ n * fD y (e + 1) := by
   rcases Int.lt_or_le (fN x (e + 1)) (10 ^ n * fD y (e + 1)) with h5 | h5
   ·exact h5
   have := (fstepc x y e (10 ^ n)).1 h5
   rw [Int.pow_succ] at h2
   omega
  obtain ⟨t, ht, h5, h6⟩ := top_exists hy n h3 h4
  exact ⟨t, ht, ZO, ZO⟩
theorem TopR.ge {x y t e : Int} (hy : 0 < y) (h : TopR x y t) (he : fD y e ≤ fN x e) : e ≤ t := by
 rcases Int.lt_or_le t e with h1 | h1
 ·exfalso
  have h2 := fmono hy (e - (t + 1)).toNat 1 ZO (by rw [Int.one_mul]; exact h.2)
  rw [show t + 1 + ((e - (t + 1)).toNat : Int) = e from by omega, Int.one_mul] at h2
  omega
 exact h1
theorem TopR.le {x y t e : Int} (hy : 0 < y) (h : TopR x y t) (he : e ≤ t) : fD y e ≤ fN x e := by
 have h1 := (fstepn x y e 1 (t - e).toNat).1 (by rw [show e + ((t - e).toNat : Int) = t from by omega, Int.one_mul]; exact h.1)
 have h2 := p10 (t - e).toNat
 have h3 := Z1W hy e
 have h4 : 1 * fD y e ≤ 1 * 10 ^ (t - e).toNat * fD y e := Int.mul_le_mul_of_nonneg_right ZO (Int.le_of_lt h3)
 omega
theorem blen_bd {x : Int} (h : 0 < x) : 2 ^ (Ma.blen x - 1).toNat ≤ x ∧ x < 2 ^ ((Ma.blen x - 1).toNat + 1) := by
 have h1 := Ma.blen_pos h
 refine ⟨?_, (Ma.blen_le_iff ZO _).1 ZO⟩
 rcases Int.lt_or_le x (2 ^ (Ma.blen x - 1).toNat) with h2 | h2
 ·have := (Ma.blen_le_iff ZO _).2 h2
  omega
 exact h2
def fX (d : Kd) (b : Int) : Int := splM d b * 2 ^ (splE d b).toNat
def fY (d : Kd) (b : Int) : Int := 2 ^ (-(splE d b)).toNat
theorem Z2H (d : Kd) (b : Int) : 0 < fY d b := p2_ _
structure Flt (d : Kd) (b x y : Int) : Prop where
 hx : 0 < x
 hy : 0 < y
 bx : Ma.blen x ≤ (1025 : Nat)
 by' : Ma.blen y ≤ (1075 : Nat)
 sx : Ma.blen x - Ma.blen y ≤ 1023
 hv : fv d.H b * y = x * 2 ^ d.l
theorem Z2C {d : Kd} {b : Int} (hb : 0 < b ∧ b < d.I) : 0 < splM d b := by
 have hbd := d.bd
 have hm : b % d.S = b := Int.emod_eq_of_lt ZO ZO
 have := Int.emod_nonneg b (show d.H ≠ 0 by omega)
 unfold splM
 rw [hm]
 split <;> omega
theorem Z56 {d : Kd} {b : Int} (hb : 0 < b ∧ b < d.I) : splM d b < 9007199254740992 ∧ -1074 ≤ splE d b ∧ splE d b ≤ 971 := by
 have hbd := d.bd
 have hm : b % d.S = b := Int.emod_eq_of_lt ZO ZO
 have hq := quo_H d (show 0 ≤ b by omega) hb.2
 have h1 := Int.emod_lt_of_pos b hbd.1
 have h3 := Int.emod_add_mul_ediv b d.H
 unfold splM splE
 rw [hm]
 cases d
 ·have h2 : b < 2139095040 := hb.2
  have h4 : (Kd.f32).H = 8388608 := rfl
  have h5 : (Kd.f32).l = 149 := rfl
  rw [h4] at *
  rw [h5]
  split <;> omega
 have h2 : b < 9218868437227405312 := hb.2
 have h4 : (Kd.f64).H = 4503599627370496 := rfl
 have h5 : (Kd.f64).l = 1074 := rfl
 rw [h4] at *
 rw [h5]
 split <;> omega
theorem Z4s {d : Kd} {b : Int} (hb : 0 < b ∧ b < d.I) : Flt d b (fX d b) (fY d b) := by
 have hs := Z56 hb
 have hM := Z2C hb
 have hx : 0 < fX d b := Int.mul_pos hM (p2_ _)
 have hM2 : Ma.blen (splM d b) ≤ (53 : Nat) := (Ma.blen_le_iff ZO 53).2 ZO
 have ex : Ma.blen (fX d b) = Ma.blen (splM d b) + (splE d b).toNat := Z33 hM _
 have ey : Ma.blen (fY d b) = 1 + (-(splE d b)).toNat := by
  have := Z33 (show (0 : Int) < 1 by omega) (-(splE d b)).toNat
  rw [Int.one_mul] at this
  rw [fY, this]
  rfl
 have h1 := Ma.blen_pos hM
 exact ⟨hx, Z2H d b, ZO, ZO, ZO, val_frac d ⟨ZO, hb.2⟩⟩
theorem Z4i {d : Kd} {b x y : Int} (h : Flt d b x y) : ∃ t, TopR x y t ∧ estE (Ma.blen x - Ma.blen y) ≤ t ∧ -400 ≤ estE (Ma.blen x - Ma.blen y) ∧ t ≤ 360 ∧ fN x (estE (Ma.blen x - Ma.blen y)) < 18446744073709551616 * fD y (estE (Ma.blen x - Ma.blen y)) := by
 have h1 := Ma.blen_pos h.hx
 have h2 := Ma.blen_pos h.hy
 have h3 := h.bx
 have h4 := h.by'
 have h5 := h.sx
 have h6 := est_ok (blen_bd h.hx) (blen_bd h.hy) (L := Ma.blen x - Ma.blen y) ZO ZO
 have h7 := Z1W h.hy (estE (Ma.blen x - Ma.blen y))
 obtain ⟨t, ht, h8, h9⟩ := top_exists (e := estE (Ma.blen x - Ma.blen y)) h.hy 20 h6.1 (Int.lt_of_lt_of_le h6.2.1 (Int.mul_le_mul_of_nonneg_right (by decide) (Int.le_of_lt h7)))
 have h10 : estE (Ma.blen x - Ma.blen y) ≤ 310 := by
  unfold estE
  have := Int.tdiv_le_tdiv (a := (Ma.blen x - Ma.blen y) * 30103) (b := 1023 * 30103) (c := 100000) ZO ZO
  have e : ((1023 : Int) * 30103).tdiv 100000 = 307 := by decide
  omega
 exact ⟨t, ht, h8, h6.2.2.1, ZO, h6.2.1⟩
def rdQ (d : Kd) (b m e : Int) : Prop := m ≠ 0 ∧ e ≤ 400 ∧ -420 ≤ e ∧ rdP d b m e
instance (d : Kd) (b m e : Int) : Decidable (rdQ d b m e) := by unfold rdQ; infer_instance
theorem rd_round {k : Int} {d : Kd} {b m e : Int} {x y : Int} {res : Int × Bool × Int} (hk : kd k = some d) (hb : 0 < b ∧ b < d.I) (ex : x = m * 10 ^ e.toNat) (ey : y = 10 ^ (-e).toNat) (hx : Ma.blen x ≤ 8192) (hy : Ma.blen y ≤ 8192) (h : Z15 k false x y res) : (res.2.2 = 0 ∧ res.1 = b) ↔ rdP d b m e := by
 have hD := p10 (-e).toNat
 unfold Z15 at h
 rw [hk] at h
 simp only at h
 rw [if_neg ZO, if_neg ZO] at h
 obtain ⟨t, ht, rfl⟩ := h
 rw [ex, ey] at ht
 rw [rdP_iff hb ht]
 unfold sgR
 by_cases h0 : t.2.2 = 0
 ·rw [if_pos h0]
  simp [h0]
 rw [if_neg h0]
 simp [h0]
def ofE (k b : Int) : Int := if (clsF k b).2 = 0 then (if (clsF k b).1 = 2 ∨ (clsF k b).1 = 3 then 0 else 100) else (clsF k b).2
theorem ofE_bad {k b : Int} (h : ¬ (clsF k b).2 = 0) : ofE k b = (clsF k b).2 := if_neg h
theorem ofE_none {k b : Int} (h : (clsF k b).2 = 0) (h2 : ¬ ((clsF k b).1 = 2 ∨ (clsF k b).1 = 3)) : ofE k b = 100 := by unfold ofE; rw [if_pos h, if_neg h2]
theorem ofE_ok {k b : Int} (h : (clsF k b).2 = 0) (h2 : (clsF k b).1 = 2 ∨ (clsF k b).1 = 3) : ofE k b = 0 := by unfold ofE; rw [if_pos h, if_pos h2]
theorem clsF_ok {k b : Int} (hb : 0 ≤ b ∧ b ≤ 18446744073709551615) (h : (clsF k b).2 = 0) : ∃ d, kd k = some d ∧ b < 2 * d.S ∧ (clsF k b).1 = cls d b := by
 by_cases hc : chk k b = 0
 ·obtain ⟨d, hd, h1⟩ := chk_ok hc hb.2
  exact ⟨d, hd, h1, by unfold clsF; rw [Z1p hd hc]⟩
 unfold clsF at h
 rw [Z4F hc] at h
 exact absurd h hc
theorem cls_23 {d : Kd} {b : Int} (h0 : 0 ≤ b) (h : cls d b = 2 ∨ cls d b = 3) : 0 < b % d.S ∧ b % d.S < d.I := by
 have hbd := d.bd
 have h1 := Int.emod_nonneg b (show d.S ≠ 0 by omega)
 unfold cls at h
 (repeat' split at h) <;> omega
theorem cls_23' {d : Kd} {b : Int} (h : 0 < b % d.S ∧ b % d.S < d.I) : cls d b = 2 ∨ cls d b = 3 := by
 unfold cls
 (repeat' split) <;> omega
theorem ofE_is {k b : Int} {d : Kd} (hk : kd k = some d) (hb : b < 2 * d.S) (h : 0 < b % d.S ∧ b % d.S < d.I) : ofE k b = 0 := by
 have e : clsF k b = (cls d b, 0) := by unfold clsF; rw [Z1p hk (Z1M hk hb)]
 exact ofE_ok (by rw [e]) (by rw [e]; exact cls_23' h)
theorem sizeF (vx vy : Value) (lx ly : List Int) (x y : Int) (hcx : Ma.Cn 18446744073709551616 lx (x)) (hcy : Ma.Cn 18446744073709551616 ly (y)) (hx : Ma.blen x ≤ (1100 : Nat)) (hy : Ma.blen y ≤ (1100 : Nat)) (hy0 : 0 < y) (t : Int) (ht : TopR x y t) (hes : fD y (estE (Ma.blen x - Ma.blen y)) ≤ fN x (estE (Ma.blen x - Ma.blen y))) (hlt : fN x (estE (Ma.blen x - Ma.blen y)) < 18446744073709551616 * fD y (estE (Ma.blen x - Ma.blen y))) (hlo : -400 ≤ estE (Ma.blen x - Ma.blen y)) (hhi : t ≤ 400) (w : World) (hvx : IV w vx (ints .u64 lx)) (hvy : IV w vy (ints .u64 ly)) :
  Z0h P 34 [.agg #[vx, vy]] w fun r w' => r = .int .i64 t ∧ Grow w w' [] := by
 refine Z0n func34 rfl ntmps34 rfl ?_
 have H0 := St.start w
 have hx0 := hcx.nonneg ZO
 have hlx := Z0Y hcx hx
 have hly := Z0Y hcy hy
 have hone1 := Z0B hvx
 have hone2 := Z0B hvy
 have hbx := Ma.blen_nonneg x
 have hby := Ma.blen_nonneg y
 obtain ⟨L, hL⟩ : ∃ L, L = Ma.blen x - Ma.blen y := ⟨_, rfl⟩
 rw [← hL] at hes hlt hlo
 have htd : ((Ma.blen x - Ma.blen y) * 30103).tdiv 100000 = estE L + 2 := by rw [← hL]; unfold estE; omega
 have het := ht.ge hy0 hes
 refine Z03 (Z00 ?_)
 refine Z1z H0 rfl rfl rfl (fun b0_0 w1 H1 => ?_)
 refine Zg (Z02 (Z01 (Z03 ?_)))
 refine Z2c ZK ZK ?_
 have H2 := H1.drewn
 refine Z08 Z2O rfl rfl rfl ?_
 refine Z04 H2 mem0 rfl rfl underlying105 rfl rfl rfl ?_
 refine Zp func58 (lenZ hcx ZO (H2.iarg hvx)) ?_
 refine Z08 Z2P rfl rfl rfl ?_
 refine Z04 H2 mem0 rfl rfl underlying105 rfl rfl rfl ?_
 refine Zp func58 (lenZ hcy ZO (H2.iarg hvy)) ?_
 refine Z0A rfl rfl rfl rfl (Z0i ZO) ?_
 refine Z1l rfl rfl rfl rfl (Z0i ZO) ?_
 refine Z3h rfl rfl rfl rfl ZO (show IntKind.i64.wrap (((Ma.blen x - Ma.blen y) * 30103).tdiv 100000) = estE L + 2 by rw [htd]; exact Z0i ZO) ?_
 refine Zg (Z02 (Z01 ?_))
 refine Zk [1, 3] ?_
 refine Z03 (Z00 (Zm ?_))
 refine Z0A rfl rfl rfl rfl (Z0i ZO) ?_
 refine Zg (Z02 (Z01 (Z0e ?_)))
 refine Z0y (ι := Int) (fun (e : Int) => (t + 1 - e).toNat) (fun (e : Int) (w' : World) => St w w.heap.size Z0G ([As.blk b0_0 107 [vx, vy]]) w' ∧ estE L ≤ e ∧ fD y e ≤ fN x e) (fun (e : Int) => [(3, .int .i64 e)]) [1] (estE L) ?_ (.cons rfl .nil) ?_ ?_
 ·exact ⟨H2, Int.le_refl _, hes⟩
 ·exact (.cons rfl ZN .nil)
 rintro e w3 ⟨H3, hle, hge⟩
 show RunC P _ _ _ (_ :: _) _
 refine Z03 (Z0e (Z03 (Z00 ?_)))
 have hte := ht.ge hy0 hge
 have hD := Z1W hy0 e
 have hlt2 : fN x e < 18446744073709551616 * fD y e := by
  have := fmono hy0 (e - estE L).toNat 18446744073709551616 ZO hlt
  rwa [show estE L + ((e - estE L).toNat : Int) = e from by omega] at this
 have hq0 : 0 ≤ fN x e / fD y e := Int.ediv_nonneg (Z1C hx0 e) (Int.le_of_lt hD)
 have hq1 : fN x e / fD y e < 18446744073709551616 := Int.ediv_lt_of_lt_mul hD hlt2
 refine Z0b H3 mem0 rfl rfl underlying107 rfl Z4N rfl (.take (.take .nil)) ?_
 refine Zm ?_
 refine Zc func35 (wholeF vx vy lx ly x y hcx hcy ZO ZO hy0 e ZO w3 (H3.iarg hvx) (H3.iarg hvy)) ?_
 rintro _ w4 ⟨rfl, hG⟩
 have H4 := hG _ _ _ _ H3
 simp only [Zca, Zna] at H4
 refine Zm ?_
 refine Zx (Zx (Zg (Zg (Z02 (Z01 ?_)))))
 refine Zk [1, 3, 4] ?_
 refine Z03 (Z00 (Zm ?_))
 refine Z0u (s := 25) (v' := .int .u64 (fN x e / fD y e)) rfl (congrArg (Value.int .u64) (Int.emod_eq_of_lt hq0 hq1)) ?_
 refine Zl ?_
 refine Z02 (Z01 ?_)
 (first | refine Z0a rfl ?_ ?_ | refine Z06 rfl ?_ ?_) <;> intro hc0
 ·refine Z03 (Z00 (Zm (Zg (Z02 (Z01 ?_)))))
  refine Zk [2] ?_
  refine Z0f ?_
  refine Z0m ?_
  refine Z05 ?_
  refine Z05 ?_
  refine Z0m ?_
  refine Z0q results34 rfl ?_
  refine ⟨_, rfl, ?_⟩
  have H5 := St.del .head H4
  refine ⟨?_, H5.grows⟩
  have h10 : fN x (e + 1) < fD y (e + 1) := by
   rcases Int.lt_or_le (fN x (e + 1)) (fD y (e + 1)) with h | h
   ·exact h
   have h1 := (fstepc x y e 1).1 (by rw [Int.one_mul]; exact h)
   rw [Int.one_mul] at h1
   have := (Int.le_ediv_iff_mul_le hD).2 h1
   omega
  rw [ht.unique hy0 ⟨hge, h10⟩]
 refine Z0c ?_
 refine Z0C ?_
 refine Z01 (Z00 (Zm ?_))
 refine Z0w rfl rfl rfl rfl (Z0i ZO) ?_
 refine Zg (Z02 ?_)
 have hge2 : fD y (e + 1) ≤ fN x (e + 1) := by
  have := (fstepc x y e 1).2 (by rw [Int.one_mul]; exact (Int.le_ediv_iff_mul_le hD).1 ZO)
  rwa [Int.one_mul] at this
 have hte2 := ht.ge hy0 hge2
 refine Z0r (i := (e)) (e + 1) ?_ ?_ (.cons rfl .nil) ?_
 ·first | omega | (simp; omega)
 ·exact ⟨H4, ZO, hge2⟩
 exact (.cons rfl ZN .nil)
theorem ofF (k b : Int) (hb : 0 ≤ b ∧ b ≤ 18446744073709551615) (w : World) :
  Z0h P 33 [.int .i64 k, .int .u64 b] w fun r w' => ∃ vn ln vd ld kk bb e, r = .tuple #[.agg #[vn, vd, .int .i64 (kk), .int .u64 (bb)], .int .i64 e] ∧ e = ofE k b ∧ (e = 0 → ∃ d, kd k = some d ∧ b < 2 * d.S ∧ 0 < b % d.S ∧ b % d.S < d.I ∧ kk = k ∧ bb = b % d.S ∧ Ma.Cn 18446744073709551616 ln (fX d (b % d.S)) ∧ Ma.Cn 18446744073709551616 ld (fY d (b % d.S))) ∧ Grow w w' [As.ri 22 .u64 vd ld, As.ri 22 .u64 vn ln] := by
 refine Z0n func33 rfl ntmps33 rfl ?_
 have H0 := St.start w
 refine Z03 (Z00 ?_)
 refine Z0z H0 ta109 rfl rfl (fun b0_0 w1 H1 => ?_)
 refine Zg (Z02 (Z01 (Z03 (Z00 (Zm (Zm ?_))))))
 refine Zc func10 (classB k b hb w1) ?_
 rintro _ w2 ⟨rfl, hG⟩
 have H2 := hG _ _ _ _ H1
 simp only [Zca, Zna] at H2
 refine Zm ?_
 refine Zx (Zx (Zg (Zg (Z02 (Z01 ?_)))))
 refine Zk [0, 1, 4, 6, 7] ?_
 refine Z03 (Z0e (Z03 (Z00 (Zm ?_))))
 refine Zo ?_
 refine Zg (Z02 (Z01 ?_))
 (first | refine Z0a rfl ?_ ?_ | refine Z06 rfl ?_ ?_) <;> intro hc0
 ·refine Z03 (Z00 ?_)
  refine Z0D rfl rfl pl109 ta109 .nil ?_
  refine Zm ?_
  refine Z09 H2 .head (.zero (.zero (.zero (.zero .nil)))) rfl Z32 rfl rfl ZC (fun w3 H3 => ?_)
  refine Zg (Z02 (Z01 ?_))
  refine Zk [4, 5] ?_
  refine Z0f ?_
  refine Z0m ?_
  refine Z05 ?_
  refine Z0k results33 (.cell rfl (Z0g H3 mem0 underlying109 rfl Z32 (.take (.take (.take (.take .nil))))) (.tmp rfl .nil)) rfl ?_
  refine ⟨_, rfl, ?_⟩
  have H4 := St.del .head H3
  refine ⟨_, [], _, [], 0, 0, _, rfl, (ofE_bad hc0).symm, fun h => absurd h ZO, ((H4.nil 22).nil 22).grows⟩
 refine Z03 (Z00 (Zm ?_))
 refine Zo ?_
 refine Zm ?_
 apply Z1a 2 [0, 1, 4] rfl rfl (.cons rfl (.cons rfl (.cons rfl (.cons rfl .nil)))) rfl rfl (fun _ => rfl) rfl rfl rfl
 ·intro hg4_3
  refine Zm ?_
  refine Zo ?_
  refine Z02 ?_
  exact Z0o rfl (.cons rfl (ZT hg4_3) (.cons rfl rfl (.cons rfl rfl (.cons rfl rfl .nil))))
 refine Zg (Z02 (Z01 ?_))
 (first | refine Z0a rfl ?_ ?_ | refine Z06 rfl ?_ ?_) <;> intro hc1
 ·refine Z03 (Z00 ?_)
  refine Z0D rfl rfl pl109 ta109 .nil ?_
  refine Z09 H2 .head (.zero (.zero (.zero (.zero .nil)))) rfl Z32 rfl rfl ZC (fun w5 H5 => ?_)
  refine Zg (Z02 (Z01 ?_))
  refine Zk [4, 5] ?_
  refine Z0f ?_
  refine Z0m ?_
  refine Z05 ?_
  refine Z0k results33 (.cell rfl (Z0g H5 mem0 underlying109 rfl Z32 (.take (.take (.take (.take .nil))))) (.tmp rfl .nil)) rfl ?_
  refine ⟨_, rfl, ?_⟩
  have H6 := St.del .head H5
  refine ⟨_, [], _, [], 0, 0, _, rfl, (ofE_none ZO ZO).symm, fun h => absurd h ZO, ((H6.nil 22).nil 22).grows⟩
 refine Z0c ?_
 refine Z0C ?_
 refine Z01 (Z03 (Z00 ?_))
 have hc02 : (clsF k b).2 = 0 := by omega
 have hc12 : (clsF k b).1 = 2 ∨ (clsF k b).1 = 3 := by omega
 obtain ⟨d, hk, hlt, hcl⟩ := clsF_ok hb hc02
 have hb2 : 0 ≤ b ∧ b < 2 * d.S := ⟨hb.1, hlt⟩
 have hfin := cls_23 hb.1 (hcl ▸ hc12)
 have hspl := spl_any hk hb2 hfin.2
 have hss := Z56 hfin
 have hsp0 := Z2C hfin
 have hbd := d.bd
 have hMb : Ma.blen (splM d (b % d.S)) ≤ (53 : Nat) := (Ma.blen_le_iff ZO 53).2 ZO
 have hjb := join_back hk (a := b % d.S) ZO (by rw [Int.emod_emod_of_dvd _ (Int.dvd_refl _)]; exact hfin.2)
 rw [Int.emod_emod_of_dvd _ (Int.dvd_refl _), decide_eq_false ZO] at hjb
 refine Zm (Zm ?_)
 refine Zc func32 (splitB k b hb w2) ?_
 rintro _ w7 ⟨rfl, hG⟩
 have H7 := hG _ _ _ _ H2
 simp only [Zca, Zna] at H7
 rw [hspl]
 refine Zm ?_
 refine Zx (Zx ?_)
 refine Z0z H7 ta68 rfl rfl (fun b6_6 w8 H8 => ?_)
 refine Z09 H8 .head (.zero (.zero (.zero .nil))) rfl tz68 rfl rfl ZC (fun w9 H9 => ?_)
 refine Zg (Z02 (Z01 ?_))
 refine Zk [0, 4, 8] ?_
 refine Z03 (Z00 (Z08 fo68_0 rfl rfl rfl ?_))
 refine Z0p H9 .head (by repeat (first | exact .zero | apply Z14.succ)) rfl tz4 rfl rfl ZR (fun w10 H10 => ?_)
 refine Z02 (Z01 (Z03 (Z00 (Zm ?_))))
 refine Z0D rfl rfl pl109 ta109 (.one rfl rfl ZR (.succ (.succ .zero)) .nil) ?_
 refine Z0z H10 ta109 rfl rfl (fun b8_2 w11 H11 => ?_)
 refine Z09 H11 .head (.zero (.zero (.zero (.zero .nil)))) rfl Z32 rfl rfl ZC (fun w12 H12 => ?_)
 refine Z02 (Z01 ?_)
 refine Zk [0, 4, 8, 10] ?_
 refine Z03 (Z00 (Zm ?_))
 refine Z0b H12 mem1 rfl rfl underlying68 rfl tz68 rfl (.take (.take (.take .nil))) ?_
 refine Zc func55 (joinB k false (splM d (b % d.S)) (splE d (b % d.S)) ZO ZO w12) ?_
 rintro _ w13 ⟨res, rfl, hJ, hG⟩
 have H13 := hG _ _ _ _ H12
 simp only [Zca, Zna] at H13
 obtain rfl := hJ.unique hjb
 refine Zm ?_
 refine Zx (Zx (Zx (Z08 fo109_2 rfl rfl rfl ?_)))
 refine Z0p H13 .head (by repeat (first | exact .zero | apply Z14.succ)) rfl tz22 rfl rfl ZR (fun w14 H14 => ?_)
 refine Z02 (Z01 (Z03 ?_))
 have H15 := H14.drewn
 refine Z1t (n := 13) [Zz,Zz,Zz,Zz,Zz,Zz,Zz,Zz,Zz,Zz,Zz,Zz,Zz] (fun wS => (As.blk b6_6 68 [.bool false, .int .u64 (splM d (b % d.S)), .int .i64 (splE d (b % d.S))]).ok wS) ZK rfl rfl ?_
 apply Zu (L' := [Zy,Zz,Zz,Zz,Zz,Zz,Zz,Zz,Zz,Zz,Zz,Zz,Zz]) 0 (H15.ok mem1)
 ·intro wS sS
  refine Z08 Z27 rfl rfl rfl (Z02 ?_)
  exact Z0d rfl
 apply Zu (L' := [Zy,Zy,Zz,Zz,Zz,Zz,Zz,Zz,Zz,Zz,Zz,Zz,Zz]) 1 (H15.ok mem1)
 ·intro wS sS
  refine Z04 (Z0R sS) mem0 rfl rfl underlying22 rfl rfl rfl ?_
  refine Z02 ?_
  exact Z0d rfl
 apply Zu (L' := [Zy,Zy,Zz,Zy,Zz,Zz,Zz,Zz,Zz,Zz,Zz,Zz,Zz]) 3 (H15.ok mem1)
 ·intro wS sS
  refine Z08 Z28 rfl rfl rfl (Z02 ?_)
  exact Z0d rfl
 apply Zu (L' := [Zy,Zy,Zz,Zy,Zy,Zz,Zz,Zz,Zz,Zz,Zz,Zz,Zz]) 4 (H15.ok mem1)
 ·intro wS sS
  refine Z04 (Z0R sS) mem0 rfl rfl underlying3 rfl rfl rfl ?_
  refine Z02 ?_
  exact Z0d rfl
 refine a_two (L' := [Zy,Zy,Zy,Zy,Zy,Zz,Zz,Zz,Zz,Zz,Zz,Zz,Zz]) (L'' := [Zy,Zy,Zz,Zy,Zy,Zy,Zz,Zz,Zz,Zz,Zz,Zz,Zz]) 2 5 ZK rfl rfl rfl rfl ?_ ?_
 ·refine Zc func57 (ofN (splM d (b % d.S)) ZO w14.drew) ?_
  rintro vm w16 ⟨_, lm, rfl, hcm, hG⟩
  have H16 := hG _ _ _ _ H15
  simp only [Zca, Zna] at H16
  have hlm := Z0Y hcm hMb
  refine Z02 ?_
  refine Z0F (H16.ok mem2) ?_
  refine Z0O (L' := [Zy,Zy,Zy,Zy,Zy,Zy,Zz,Zz,Zz,Zz,Zz,Zz,Zz]) 5 ZK rfl rfl ?_
  refine Z1m rfl rfl rfl rfl ?_
  refine Z02 ?_
  refine Z0F (H16.ok mem2) ?_
  refine Z0O (L' := [Zy,Zy,Zy,Zy,Zy,Zy,Zy,Zz,Zz,Zz,Zz,Zz,Zz]) 6 ZK rfl rfl ?_
  refine Z0u (s := 53) (v' := .int .i64 (((splE d (b % d.S)).toNat : Nat) : Int)) rfl (congrArg (Value.int _) ZO) ?_
  refine Zc func56 (shlY (k := (splE d (b % d.S)).toNat) hcm ZO ZO (H16.io mem0)) ?_
  rintro _ w17 ⟨vn, ln, rfl, hcn, hG⟩
  have H17 := hG _ _ _ _ H16
  simp only [Zca, Zna] at H17
  have hone1 := Z0B (H17.io mem0)
  refine Z02 ?_
  refine Z0F (H17.ok mem3) ?_
  apply Zu (L' := [Zy,Zy,Zy,Zy,Zy,Zy,Zy,Zy,Zz,Zz,Zz,Zz,Zz]) 7 (H17.ok mem3)
  ·intro wS sS
   refine Zm (Z02 ?_)
   exact Z0d rfl
  apply Zu (L' := [Zy,Zy,Zy,Zy,Zy,Zy,Zy,Zy,Zy,Zz,Zz,Zz,Zz]) 8 (H17.ok mem3)
  ·intro wS sS
   refine Zx (Z02 ?_)
   exact Z0d rfl
  apply Zu (L' := [Zy,Zy,Zy,Zy,Zy,Zy,Zy,Zy,Zy,Zy,Zz,Zz,Zz]) 9 (H17.ok mem3)
  ·intro wS sS
   refine Zx (Z02 ?_)
   exact Z0d rfl
  apply Zu (L' := [Zy,Zy,Zy,Zy,Zy,Zy,Zy,Zy,Zy,Zy,Zy,Zz,Zz]) 10 (H17.ok mem3)
  ·intro wS sS
   refine Z08 Z3o rfl rfl rfl (Z02 ?_)
   exact Z0d rfl
  apply Zu (L' := [Zy,Zy,Zy,Zy,Zy,Zy,Zy,Zy,Zy,Zy,Zy,Zy,Zz]) 11 (H17.ok mem3)
  ·intro wS sS
   refine Z08 Z2O rfl rfl rfl (Z02 ?_)
   exact Z0d rfl
  refine Z0O (L' := [Zy,Zy,Zy,Zy,Zy,Zy,Zy,Zy,Zy,Zy,Zy,Zy,Zy]) 12 ZK rfl rfl ?_
  refine Z0p H17 (.tail (.tail .head)) (by repeat (first | exact .zero | apply Z14.succ)) rfl tz105 rfl rfl ZR (fun w18 H18 => ?_)
  refine Z02 ?_
  refine Z0F (H18.ok mem3) ?_
  refine Z0W ZK ?_
  refine Z01 ?_
  refine Zk [4, 8, 10] ?_
  refine Z03 (Z00 ?_)
  refine Z1D H18 rfl rfl underlying105 ti22 rfl (.cons rfl ZR .nil) rfl rfl rfl (fun b11_0 w19 H19 => ?_)
  refine Z08 Z28 rfl rfl rfl ?_
  refine Z04 H19 mem4 rfl rfl underlying3 rfl rfl rfl ?_
  refine Z1K rfl rfl rfl (Z0i ZO) ?_
  refine Z1m rfl rfl rfl rfl ?_
  refine Z0u (s := 64) (v' := .int .i64 (((-(splE d (b % d.S))).toNat : Nat) : Int)) rfl (congrArg (Value.int _) ZO) ?_
  refine Zc func56 (shlY (k := (-(splE d (b % d.S))).toNat) Cn1 (by simp) (by have h1 : Ma.blen 1 = 1 := (by decide); omega) (H19.ibl mem0)) ?_
  rintro _ w20 ⟨vd, ld, rfl, hcd, hG⟩
  have H20 := hG _ _ _ _ H19
  simp only [Zca, Zna] at H20
  have hone2 := Z0B (H20.io mem0)
  refine Zm ?_
  refine Zx (Zx (Z08 Z3o rfl rfl rfl (Z08 Z2P rfl rfl rfl ?_)))
  refine Z0p H20 (.tail (.tail (.tail (.tail .head)))) (by repeat (first | exact .zero | apply Z14.succ)) rfl tz105 rfl rfl ZR (fun w21 H21 => ?_)
  refine Z02 (Z01 (Z03 (Z00 ?_)))
  refine Z0b H21 mem4 rfl rfl underlying109 rfl Z32 rfl (.take (.take (.take (.take .nil)))) ?_
  refine Z09 H21 (.tail (.tail (.tail (.tail (.tail (.tail .head)))))) (.zero (.zero (.zero (.zero .nil)))) rfl Z32 rfl rfl ZC (fun w22 H22 => ?_)
  refine Zg (Z02 (Z01 ?_))
  refine Zk [4, 5] ?_
  refine Z0f ?_
  refine Z0k results33 (.cell rfl (Z0g H22 mem6 underlying109 rfl Z32 (.take (.take (.take (.take .nil))))) (.tmp rfl .nil)) rfl ?_
  refine ⟨_, rfl, ?_⟩
  have H29 := St.del (.tail (.tail .head)) (St.del (.tail (.tail (.tail .head))) (St.del (.tail (.tail (.tail (.tail .head)))) (St.del (.tail (.tail (.tail (.tail (.tail .head))))) (St.del (.tail (.tail (.tail (.tail (.tail (.tail .head)))))) (St.front1 (St.front2 H22))))))
  refine ⟨vn, ln, vd, ld, k, b % d.S, 0, rfl, (ofE_ok hc02 hc12).symm, fun _ => ⟨d, hk, hlt, hfin.1, hfin.2, rfl, rfl, hcn, ?_⟩, H29.grows⟩
  rw [Int.one_mul] at hcd
  exact hcd
 refine Z1m rfl rfl rfl rfl ?_
 refine Z02 ?_
 refine Z0F (H15.ok mem1) ?_
 refine Z0O (L' := [Zy,Zy,Zy,Zy,Zy,Zy,Zz,Zz,Zz,Zz,Zz,Zz,Zz]) 2 ZK rfl rfl ?_
 refine Zc func57 (ofN (splM d (b % d.S)) ZO w14.drew) ?_
 rintro vm w30 ⟨_, lm, rfl, hcm, hG⟩
 have H30 := hG _ _ _ _ H15
 simp only [Zca, Zna] at H30
 have hlm := Z0Y hcm hMb
 refine Z02 ?_
 refine Z0F (H30.ok mem2) ?_
 refine Z0O (L' := [Zy,Zy,Zy,Zy,Zy,Zy,Zy,Zz,Zz,Zz,Zz,Zz,Zz]) 6 ZK rfl rfl ?_
 refine Z0u (s := 53) (v' := .int .i64 (((splE d (b % d.S)).toNat : Nat) : Int)) rfl (congrArg (Value.int _) ZO) ?_
 refine Zc func56 (shlY (k := (splE d (b % d.S)).toNat) hcm ZO ZO (H30.io mem0)) ?_
 rintro _ w31 ⟨vn, ln, rfl, hcn, hG⟩
 have H31 := hG _ _ _ _ H30
 simp only [Zca, Zna] at H31
 have hone1 := Z0B (H31.io mem0)
 refine Z02 ?_
 refine Z0F (H31.ok mem3) ?_
 apply Zu (L' := [Zy,Zy,Zy,Zy,Zy,Zy,Zy,Zy,Zz,Zz,Zz,Zz,Zz]) 7 (H31.ok mem3)
 ·intro wS sS
  refine Zm (Z02 ?_)
  exact Z0d rfl
 apply Zu (L' := [Zy,Zy,Zy,Zy,Zy,Zy,Zy,Zy,Zy,Zz,Zz,Zz,Zz]) 8 (H31.ok mem3)
 ·intro wS sS
  refine Zx (Z02 ?_)
  exact Z0d rfl
 apply Zu (L' := [Zy,Zy,Zy,Zy,Zy,Zy,Zy,Zy,Zy,Zy,Zz,Zz,Zz]) 9 (H31.ok mem3)
 ·intro wS sS
  refine Zx (Z02 ?_)
  exact Z0d rfl
 apply Zu (L' := [Zy,Zy,Zy,Zy,Zy,Zy,Zy,Zy,Zy,Zy,Zy,Zz,Zz]) 10 (H31.ok mem3)
 ·intro wS sS
  refine Z08 Z3o rfl rfl rfl (Z02 ?_)
  exact Z0d rfl
 apply Zu (L' := [Zy,Zy,Zy,Zy,Zy,Zy,Zy,Zy,Zy,Zy,Zy,Zy,Zz]) 11 (H31.ok mem3)
 ·intro wS sS
  refine Z08 Z2O rfl rfl rfl (Z02 ?_)
  exact Z0d rfl
 refine Z0O (L' := [Zy,Zy,Zy,Zy,Zy,Zy,Zy,Zy,Zy,Zy,Zy,Zy,Zy]) 12 ZK rfl rfl ?_
 refine Z0p H31 (.tail (.tail .head)) (by repeat (first | exact .zero | apply Z14.succ)) rfl tz105 rfl rfl ZR (fun w32 H32 => ?_)
 refine Z02 ?_
 refine Z0F (H32.ok mem3) ?_
 refine Z0W ZK ?_
 refine Z01 (Z03 (Z00 ?_))
 refine Z1D H32 rfl rfl underlying105 ti22 rfl (.cons rfl ZR .nil) rfl rfl rfl (fun b11_0 w33 H33 => ?_)
 refine Z08 Z28 rfl rfl rfl ?_
 refine Z04 H33 mem4 rfl rfl underlying3 rfl rfl rfl ?_
 refine Z1K rfl rfl rfl (Z0i ZO) ?_
 refine Z1m rfl rfl rfl rfl ?_
 refine Z0u (s := 64) (v' := .int .i64 (((-(splE d (b % d.S))).toNat : Nat) : Int)) rfl (congrArg (Value.int _) ZO) ?_
 refine Zc func56 (shlY (k := (-(splE d (b % d.S))).toNat) Cn1 (by simp) (by have h1 : Ma.blen 1 = 1 := (by decide); omega) (H33.ibl mem0)) ?_
 rintro _ w34 ⟨vd, ld, rfl, hcd, hG⟩
 have H34 := hG _ _ _ _ H33
 simp only [Zca, Zna] at H34
 have hone2 := Z0B (H34.io mem0)
 refine Zm ?_
 refine Zx (Zx (Z08 Z3o rfl rfl rfl (Z08 Z2P rfl rfl rfl ?_)))
 refine Z0p H34 (.tail (.tail (.tail (.tail .head)))) (by repeat (first | exact .zero | apply Z14.succ)) rfl tz105 rfl rfl ZR (fun w35 H35 => ?_)
 refine Z02 (Z01 ?_)
 refine Zk [4, 10] ?_
 refine Z03 (Z00 ?_)
 refine Z0b H35 mem4 rfl rfl underlying109 rfl Z32 rfl (.take (.take (.take (.take .nil)))) ?_
 refine Z09 H35 (.tail (.tail (.tail (.tail (.tail (.tail .head)))))) (.zero (.zero (.zero (.zero .nil)))) rfl Z32 rfl rfl ZC (fun w36 H36 => ?_)
 refine Zg (Z02 (Z01 ?_))
 refine Z0f ?_
 refine Z0k results33 (.cell rfl (Z0g H36 mem6 underlying109 rfl Z32 (.take (.take (.take (.take .nil))))) (.tmp rfl .nil)) rfl ?_
 refine ⟨_, rfl, ?_⟩
 have H43 := St.del (.tail (.tail .head)) (St.del (.tail (.tail (.tail .head))) (St.del (.tail (.tail (.tail (.tail .head)))) (St.del (.tail (.tail (.tail (.tail (.tail .head))))) (St.del (.tail (.tail (.tail (.tail (.tail (.tail .head)))))) (St.front1 (St.front2 H36))))))
 refine ⟨vn, ln, vd, ld, k, b % d.S, 0, rfl, (ofE_ok hc02 hc12).symm, fun _ => ⟨d, hk, hlt, hfin.1, hfin.2, rfl, rfl, hcn, ?_⟩, H43.grows⟩
 rw [Int.one_mul] at hcd
 exact hcd
theorem readsF (vx vy : Value) (lx ly : List Int) (k : Int) (d : Kd) (hk : kd k = some d) (b man e : Int) (hb : 0 < b ∧ b < d.I) (hm : 0 ≤ man ∧ man ≤ 18446744073709551615) (w : World) (hvx : IV w vx (ints .u64 lx)) (hvy : IV w vy (ints .u64 ly)) :
  Z0h P 36 [.agg #[vx, vy, .int .i64 (k), .int .u64 (b)], .int .u64 man, .int .i64 e] w fun r w' => r = .bool (decide (rdQ d b man e)) ∧ Grow w w' [] := by
 refine Z0n func36 rfl ntmps36 rfl ?_
 have H0 := St.start w
 have hone1 := Z0B hvx
 have hone2 := Z0B hvy
 have hbd := d.bd
 refine Z03 (Z00 ?_)
 refine Z1z H0 rfl rfl rfl (fun b0_0 w1 H1 => ?_)
 refine Zg (Z02 (Z01 (Z03 (Z03 (Z00 (Zm ?_))))))
 refine Ze ?_
 refine Zm ?_
 apply l_or 2 [1, 2, 3] rfl rfl (.cons rfl (.cons rfl (.cons rfl (.cons rfl .nil)))) rfl rfl (fun _ => rfl) rfl rfl rfl
 ·intro hg1_3
  refine Zm ?_
  refine Zw ?_
  refine Z02 ?_
  exact Z0o rfl (.cons rfl (ZF hg1_3) (.cons rfl rfl (.cons rfl rfl (.cons rfl rfl .nil))))
 refine Zm ?_
 apply l_or 2 [1, 2, 3] rfl rfl (.cons rfl (.cons rfl (.cons rfl (.cons rfl .nil)))) rfl rfl (fun _ => rfl) rfl rfl rfl
 ·intro hg1_7
  refine Zm ?_
  refine Zl ?_
  refine Z02 ?_
  exact Z0o rfl (.cons rfl (ZF hg1_7) (.cons rfl rfl (.cons rfl rfl (.cons rfl rfl .nil))))
 refine Z02 (Z01 ?_)
 refine Zk [1, 2, 3, 20] ?_
 (first | refine Z0a rfl ?_ ?_ | refine Z06 rfl ?_ ?_) <;> intro hc0
 ·refine Z03 (Z00 (Zg (Z02 (Z01 ?_))))
  refine Z0f ?_
  refine Z05 ?_
  refine Z0q results36 rfl ?_
  refine ⟨_, rfl, ?_⟩
  have H2 := St.del .head H1
  refine ⟨?_, H2.grows⟩
  rw [decide_eq_false (fun h => by have h1 := h.1; have h2 := h.2.1; have h3 := h.2.2.1; omega)]
 refine Z0c (Z01 ?_)
 refine Zk [1, 2, 3] ?_
 refine Z03 (Z00 ?_)
 have hMb : Ma.blen man ≤ (64 : Nat) := (Ma.blen_le_iff ZO 64).2 ZO
 have h10a := Z2h e.toNat
 have h10b := Z2h (-e).toNat
 refine Zm ?_
 refine Zc func57 (ofN man hm w1) ?_
 rintro vm w3 ⟨_, lm, rfl, hcm, hG⟩
 have H3 := hG _ _ _ _ H1
 simp only [Zca, Zna] at H3
 refine Zm ?_
 refine Zc func59 (timesF vm lm man e hcm ZO ZO w3 (H3.io mem0)) ?_
 rintro _ w4 ⟨vn, ln, vd, ld, rfl, hcn, hcd, hG⟩
 have H4 := hG _ _ _ _ H3
 simp only [Zca, Zna] at H4
 have hnn := Z0B (H4.io mem0)
 have hnd := Z0B (H4.io mem1)
 have hmb := Z1X hm.1 (Int.le_of_lt (p10 e.toNat)) hMb h10a
 have hln := Z0Y hcn hmb
 have hld := Z0Y hcd h10b
 refine Z0z H4 ta107 rfl rfl (fun b3_4 w5 H5 => ?_)
 refine Z09 H5 .head (.zero (.zero .nil)) rfl Z4N rfl rfl ZC (fun w6 H6 => ?_)
 refine Z02 (Z01 (Z03 (Z00 (Z08 fo109_1 rfl rfl rfl ?_))))
 refine Z04 H6 mem4 rfl rfl underlying3 rfl rfl rfl ?_
 refine Z08 Z2O rfl rfl rfl ?_
 refine Z04 H6 mem0 rfl rfl underlying105 rfl rfl rfl ?_
 refine Z08 Z2P rfl rfl rfl ?_
 refine Z04 H6 mem0 rfl rfl underlying105 rfl rfl rfl ?_
 refine Zc func63 (roundB k false vn vd ln ld (cnU hcn) (cnU hcd) ZO ZO w6 (H6.io mem2) (H6.io mem1)) ?_
 rintro _ w7 ⟨res, rfl, hR, hG⟩
 have H7 := hG _ _ _ _ H6
 simp only [Zca, Zna] at H7
 have hrr := rd_round hk hb (show nv ln = man * 10 ^ e.toNat from hcn.val) (show nv ld = 10 ^ (-e).toNat from hcd.val) (by rw [show nv ln = _ from hcn.val]; omega) (by rw [show nv ld = _ from hcd.val]; omega) hR
 refine Zm ?_
 refine Zx (Zx (Zx (Zg (Zg (Zg (Z02 (Z01 ?_)))))))
 refine Zk [3, 8, 10] ?_
 refine Z03 (Z00 (Zm ?_))
 refine Ze ?_
 refine Zm ?_
 apply Z1a 4 [] rfl rfl (.cons rfl .nil) rfl rfl (fun _ => rfl) rfl rfl rfl
 ·intro hg5_3
  refine Zm (Z08 fo109_2 rfl rfl rfl ?_)
  refine Z04 H7 mem4 rfl rfl underlying22 rfl rfl rfl ?_
  refine Ze ?_
  refine Z02 ?_
  exact Z0o rfl (.cons rfl (ZT hg5_3) .nil)
 refine Zg (Z02 (Z01 ?_))
 refine Z0f ?_
 refine Z0q results36 rfl ?_
 refine ⟨_, rfl, ?_⟩
 have H12 := St.del .head (St.del (.tail .head) (St.del (.tail (.tail .head)) (St.del (.tail (.tail (.tail .head))) (St.del (.tail (.tail (.tail (.tail .head)))) H7))))
 refine ⟨?_, H12.grows⟩
 refine congrArg Value.bool (decide_eq_decide.2 ?_)
 rw [hrr]
 exact ⟨fun h => ⟨ZO, ZO, ZO, h⟩, fun h => h.2.2.2⟩
def fQ (x y e : Int) : Int := fN x e / fD y e
def hit (d : Kd) (b x y e : Int) : Prop := rdQ d b (fQ x y e) e ∨ rdQ d b (fQ x y e + 1) e
instance (d : Kd) (b x y e : Int) : Decidable (hit d b x y e) := by unfold hit; infer_instance
def upp (d : Kd) (b x y e : Int) : Prop := ¬ rdQ d b (fQ x y e) e ∨ (rdQ d b (fQ x y e + 1) e ∧ (0 < hfS x y e ∨ (hfS x y e = 0 ∧ fQ x y e % 2 = 1)))
instance (d : Kd) (b x y e : Int) : Decidable (upp d b x y e) := by unfold upp; infer_instance
def Z2v (d : Kd) (b x y e : Int) : Int := if upp d b x y e then fQ x y e + 1 else fQ x y e
def Z4j (m e m' e' : Int) : Prop := m' % 10 ≠ 0 ∧ ∃ j : Nat, m = m' * 10 ^ j ∧ e' = e + j
theorem Z4j.unique {m e m1 e1 m2 e2 : Int} (h : Z4j m e m1 e1) (k : Z4j m e m2 e2) : m1 = m2 ∧ e1 = e2 := by
 have key : ∀ {m1 e1 m2 e2 : Int} {i j : Nat}, m1 % 10 ≠ 0 → m = m1 * 10 ^ i → m = m2 * 10 ^ j → ¬ i < j := fun {m1 e1 m2 e2 i j} h1 h2 h3 h4 => by
  obtain ⟨u, hu⟩ : ∃ u, j = i + (u + 1) := ⟨j - i - 1, ZO⟩
  rw [h2, hu, Int.pow_add, Int.mul_comm (10 ^ i), ← Int.mul_assoc] at h3
  have h5 := Int.eq_of_mul_eq_mul_right (show (10 : Int) ^ i ≠ 0 by have := p10 i; omega) h3
  rw [Int.pow_succ, ← Int.mul_assoc] at h5
  omega
 obtain ⟨h1, i, h2, h3⟩ := h
 obtain ⟨k1, j, k2, k3⟩ := k
 rcases Nat.lt_trichotomy i j with hl | hl | hl
 ·exact absurd hl (key (e1 := 0) (e2 := 0) h1 h2 k2)
 ·subst hl
  rw [h2] at k2
  exact ⟨Int.eq_of_mul_eq_mul_right (show (10 : Int) ^ i ≠ 0 by have := p10 i; omega) k2, ZO⟩
 exact absurd hl (key (e1 := 0) (e2 := 0) k1 k2 h2)
theorem Z4j.go {m e : Int} {n : Nat} {m' : Int} (h : m = m' * 10 ^ n) (h0 : ¬ m' % 10 = 0) : Z4j m e m' (e + n) := ⟨h0, n, h, rfl⟩
def EndR (d : Kd) (b x y t f : Int) : Prop := TopR x y t ∧ f ≤ t ∧ (∀ g, f < g → g ≤ t → ¬ hit d b x y g) ∧ hit d b x y f
def DigR (d : Kd) (b x y m e : Int) : Prop := ∃ t f, EndR d b x y t f ∧ Z4j (Z2v d b x y f) f m e
theorem EndR.unique {d : Kd} {b x y t f u g : Int} (hy : 0 < y) (h : EndR d b x y t f) (k : EndR d b x y u g) : t = u ∧ f = g := by
 have e := h.1.unique hy k.1
 subst e
 refine ⟨rfl, ?_⟩
 rcases Int.lt_trichotomy f g with hl | hl | hl
 ·exact absurd k.2.2.2 (h.2.2.1 g hl k.2.1)
 ·exact hl
 exact absurd h.2.2.2 (k.2.2.1 f hl h.2.1)
theorem DigR.unique {d : Kd} {b x y m e m' e' : Int} (hy : 0 < y) (h : DigR d b x y m e) (k : DigR d b x y m' e') : m = m' ∧ e = e' := by
 obtain ⟨t, f, h1, h2⟩ := h
 obtain ⟨u, g, k1, k2⟩ := k
 obtain ⟨rfl, rfl⟩ := h1.unique hy k1
 exact h2.unique k2
theorem fQ_bd {x y t e : Int} (hx : 0 ≤ x) (hy : 0 < y) (h : TopR x y t) (n : Nat) (hn : t + 1 - e ≤ n) : 0 ≤ fQ x y e ∧ fQ x y e < 10 ^ n := by
 have hD := Z1W hy e
 refine ⟨Int.ediv_nonneg (Z1C hx e) (Int.le_of_lt hD), ?_⟩
 rcases Int.lt_or_le t e with h1 | h1
 ·have h2 : fN x e < fD y e := by
   rcases Int.lt_or_le (fN x e) (fD y e) with h3 | h3
   ·exact h3
   have := h.ge hy h3
   omega
  have h3 := p10 n
  rw [fQ, Int.ediv_eq_zero_of_lt (Z1C hx e) h2]
  exact h3
 have h2 := Z55 hy h (t + 1 - e).toNat
 rw [show t + 1 - ((t + 1 - e).toNat : Int) = e from by omega] at h2
 exact Int.lt_of_lt_of_le h2 (Ma.pow_mono ZO ZO)
theorem hit17 {d : Kd} {b x y t : Int} (hb : 0 < b ∧ b < d.I) (h : Flt d b x y) (ht : TopR x y t) (hl : -400 ≤ t ∧ t ≤ 400) : hit d b x y (t - 17) := by
 have h1 := Z4g h.hy ht 17
 rw [show ((17 : Nat) : Int) = 17 from rfl] at h1
 have h3 : (10 : Int) ^ 17 = 100000000000000000 := by decide
 rw [h3] at h1
 exact .inl ⟨by unfold fQ; omega, ZO, ZO, rd_low hb (Int.le_of_lt h.hx) h.hy h.hv h1⟩
theorem pick_pos {d : Kd} {b x y t e : Int} (hx : 0 ≤ x) (hy : 0 < y) (ht : TopR x y t) (h : hit d b x y e) : 0 < Z2v d b x y e := by
 have h0 := (fQ_bd (e := e) hx hy ht (t + 1 - e).toNat ZO).1
 unfold Z2v
 split
 ·omega
 rename_i h1
 unfold upp at h1
 have h2 : rdQ d b (fQ x y e) e := Classical.not_not.1 (fun h3 => h1 (.inl h3))
 have := h2.1
 omega
def DigE (k b m e er : Int) : Prop := er = ofE k b ∧ (er ≠ 0 → m = 0 ∧ e = 0) ∧ (er = 0 → ∃ d, kd k = some d ∧ b < 2 * d.S ∧ 0 < b % d.S ∧ b % d.S < d.I ∧ DigR d (b % d.S) (fX d (b % d.S)) (fY d (b % d.S)) m e)
theorem DigE.unique {k b m e er m' e' er' : Int} (h : DigE k b m e er) (g : DigE k b m' e' er') : m = m' ∧ e = e' ∧ er = er' := by
 have he : er = er' := h.1.trans g.1.symm
 subst he
 by_cases h0 : er = 0
 ·obtain ⟨d, hd, _, _, _, h1⟩ := h.2.2 h0
  obtain ⟨d', hd', _, _, _, g1⟩ := g.2.2 h0
  rw [hd] at hd'
  cases hd'
  exact ⟨(h1.unique (Z2H _ _) g1).1, (h1.unique (Z2H _ _) g1).2, rfl⟩
 have h1 := h.2.1 h0
 have g1 := g.2.1 h0
 exact ⟨ZO, ZO, rfl⟩
theorem DigR.bd {d : Kd} {b m e : Int} (hb : 0 < b ∧ b < d.I) (h : DigR d b (fX d b) (fY d b) m e) : 0 < m ∧ m ≤ 1000000000000000000 ∧ -420 ≤ e ∧ e ≤ 380 := by
 obtain ⟨t, f, ⟨h1, h2, h3, h4⟩, h5, j, h6, h7⟩ := h
 have hf := Z4s hb
 obtain ⟨t', ht', h8, h9, h10, _⟩ := Z4i hf
 have e := h1.unique hf.hy ht'
 subst e
 have h11 : t - 17 ≤ f := by
  rcases Int.lt_or_le f (t - 17) with h | h
  ·exact absurd (hit17 hb hf h1 ZO) (h3 _ h ZO)
  exact h
 have hp := pick_pos (Int.le_of_lt hf.hx) hf.hy h1 h4
 have hq := fQ_bd (Int.le_of_lt hf.hx) hf.hy h1 18 (e := f) ZO
 have h18 : (10 : Int) ^ 18 = 1000000000000000000 := by decide
 rw [h18] at hq
 have hq2 : Z2v d b (fX d b) (fY d b) f ≤ 1000000000000000000 := by
  unfold Z2v
  split <;> omega
 rw [h6] at hp hq2
 have hj := p10 j
 have hm : 0 < m := by
  rcases Int.lt_or_le 0 m with h | h
  ·exact h
  have := Int.mul_le_mul_of_nonneg_right h (Int.le_of_lt hj)
  omega
 have hm2 : m * 1 ≤ m * 10 ^ j := Int.mul_le_mul_of_nonneg_left ZO (Int.le_of_lt hm)
 have hj2 : 1 * 10 ^ j ≤ m * 10 ^ j := Int.mul_le_mul_of_nonneg_right ZO (Int.le_of_lt hj)
 have hj3 : j ≤ 18 := by
  rcases Nat.lt_or_ge 18 j with h | h
  ·have := Ma.pow_mono (show (1 : Int) ≤ 10 by omega) (show 19 ≤ j by omega)
   have h19 : (10 : Int) ^ 19 = 10000000000000000000 := by decide
   omega
  exact h
 exact ⟨hm, ZO, ZO, ZO⟩
theorem DigE.bd {k b m e er : Int} (h : DigE k b m e er) : 0 ≤ m ∧ m ≤ 1000000000000000000 ∧ -420 ≤ e ∧ e ≤ 380 ∧ (er = 0 → 0 < m) := by
 by_cases h0 : er = 0
 ·obtain ⟨d, hd, _, h1, h2, h3⟩ := h.2.2 h0
  have := h3.bd ⟨h1, h2⟩
  omega
 have := h.2.1 h0
 omega
theorem pow10_le {m : Int} {j : Nat} (h : 0 < m) (h2 : m * 10 ^ j ≤ 1000000000000000000) : j ≤ 18 := by
 rcases Nat.lt_or_ge 18 j with h1 | h1
 ·exfalso
  have h3 := Ma.pow_mono (show (1 : Int) ≤ 10 by omega) (show 19 ≤ j by omega)
  have h19 : (10 : Int) ^ 19 = 10000000000000000000 := by decide
  have h4 : 1 * 10 ^ j ≤ m * 10 ^ j := Int.mul_le_mul_of_nonneg_right ZO (Int.le_of_lt (p10 j))
  omega
 exact h1
theorem pow10_next {m0 m : Int} {j : Nat} (h : m0 = m * 10 ^ j) (h10 : m % 10 = 0) : m0 = m / 10 * 10 ^ (j + 1) := by
 rw [h, Int.pow_succ, Int.mul_comm _ 10, ← Int.mul_assoc, show m / 10 * 10 = m from by omega]
theorem pick_le {d : Kd} {b x y e : Int} (h : fQ x y e < 1000000000000000000) : Z2v d b x y e ≤ 1000000000000000000 := by
 unfold Z2v
 split <;> omega
theorem no_next {d : Kd} {b x y t f : Int} (hb : 0 < b ∧ b < d.I) (h : Flt d b x y) (ht : TopR x y t) (hl : -400 ≤ t ∧ t ≤ 400) (hf : t - 17 ≤ f) (hno : ∀ g, f < g → g ≤ t → ¬ hit d b x y g) (hm : ¬ hit d b x y f) : t - 17 ≤ f - 1 ∧ ∀ g, f - 1 < g → g ≤ t → ¬ hit d b x y g := by
 refine ⟨?_, fun g h1 h2 => ?_⟩
 ·rcases Int.lt_or_eq_of_le hf with h1 | h1
  ·omega
  exact absurd (hit17 hb h ht hl) (by rw [h1]; exact hm)
 rcases Int.lt_or_eq_of_le (show f ≤ g by omega) with h3 | h3
 ·exact hno g h3 h2
 rw [← h3]; exact hm
theorem DigitsF (k b : Int) (hb : 0 ≤ b ∧ b ≤ 18446744073709551615) (w : World) :
  Z0h P 17 [.int .i64 k, .int .u64 b] w fun r w' => ∃ m e er, r = .tuple #[.int .u64 m, .int .i64 e, .int .i64 er] ∧ DigE k b m e er ∧ Grow w w' [] := by
 refine Z0n func17 rfl ntmps17 rfl ?_
 have H0 := St.start w
 refine Z03 (Z00 (Zg ?_))
 refine Zg ?_
 refine Zg (Z02 (Z01 (Z03 (Z00 ?_))))
 refine Zm ?_
 refine Zm ?_
 refine Zc func33 (ofF k b hb w) ?_
 rintro _ w1 ⟨vn, ln, vd, ld, kk, bb, er, rfl, her, hok, hG⟩
 have H1 := hG _ _ _ _ H0
 simp only [Zca, Zna] at H1
 have hnn := Z0B (H1.io mem0)
 have hnd := Z0B (H1.io mem1)
 refine Zm ?_
 refine Zx (Zx ?_)
 refine Z0z H1 ta109 rfl rfl (fun b1_6 w2 H2 => ?_)
 refine Z09 H2 .head (.zero (.zero (.zero (.zero .nil)))) rfl Z32 rfl rfl ZC (fun w3 H3 => ?_)
 refine Zg (Z02 (Z01 ?_))
 refine Zk [6, 7] ?_
 refine Z03 (Z03 (Z00 (Zm ?_)))
 refine Zo ?_
 refine Z02 (Z01 ?_)
 (first | refine Z0a rfl ?_ ?_ | refine Z06 rfl ?_ ?_) <;> intro hc0
 ·refine Z03 (Z00 (Zm ?_))
  refine Zg ?_
  refine Zg ?_
  refine Zg (Z02 (Z01 ?_))
  refine Zk [4, 5, 6] ?_
  refine Z0f ?_
  refine Z05 ?_
  refine Z0k results17 (.tmp rfl (.tmp rfl (.tmp rfl .nil))) rfl ?_
  refine ⟨_, rfl, ?_⟩
  have H6 := St.del .head (St.del (.tail .head) (St.del (.tail (.tail .head)) H3))
  exact ⟨_, _, _, rfl, ⟨her, fun _ => ⟨rfl, rfl⟩, fun h => absurd h ZO⟩, H6.grows⟩
 have her0 : er = 0 := by omega
 obtain ⟨d, hk, hltS, hlo, hhi, hkk, hbb, hcn, hcd⟩ := hok her0
 rw [← hbb] at hlo hhi hcn hcd
 have hk2 : kd kk = some d := by rw [hkk]; exact hk
 have hfl := Z4s ⟨hlo, hhi⟩
 have hfx := hfl.bx
 have hfy := hfl.by'
 obtain ⟨t, ht, het, hlo4, hhi3, hlt64⟩ := Z4i hfl
 have hes := ht.le hfl.hy het
 refine Z0c (Z01 (Z03 (Z00 (Z08 Z3o rfl rfl rfl ?_))))
 refine Z0b H3 mem0 rfl rfl underlying107 rfl Z4N rfl (.take (.take .nil)) ?_
 refine Z0J rfl rfl func34 rfl rfl (.cons rfl .nil) (sizeF vn vd ln ld _ _ hcn hcd ZO ZO hfl.hy t ht hes hlt64 hlo4 ZO w3 (H3.io mem2) (H3.io mem1)) ?_
 rintro _ w7 ⟨rfl, hG⟩
 have H7 := hG _ _ _ _ H3
 simp only [Zca, Zna] at H7
 refine Zg (Z02 (Z01 ?_))
 refine Zk [5, 7] ?_
 refine Z0e ?_
 refine Z0y (ι := Int) (fun (f : Int) => (f - (t - 18)).toNat) (fun (f : Int) (w' : World) => St w w.heap.size Z0G ([As.blk b1_6 109 [vn, vd, .int .i64 kk, .int .u64 bb], As.ri 22 .u64 vd ld, As.ri 22 .u64 vn ln]) w' ∧ t - 17 ≤ f ∧ f ≤ t ∧ (∀ g, f < g → g ≤ t → ¬ hit d bb (fX d bb) (fY d bb) g)) (fun (f : Int) => [(5, .int .i64 f)]) [7] (t) ?_ (.cons rfl .nil) ?_ ?_
 ·exact ⟨H7, ZO, Int.le_refl _, fun g h1 h2 => by omega⟩
 ·exact (.cons rfl ZN .nil)
 rintro f w8 ⟨H8, hf1, hf2, hno⟩
 show RunC P _ _ _ (_ :: _) _
 refine Z03 (Z0e (Z03 (Z00 ?_)))
 have hq := fQ_bd (Int.le_of_lt hfl.hx) hfl.hy ht 18 (e := f) ZO
 rw [show (10 : Int) ^ 18 = 1000000000000000000 by decide] at hq
 refine Z08 Z3o rfl rfl rfl ?_
 refine Z0b H8 mem0 rfl rfl underlying107 rfl Z4N rfl (.take (.take .nil)) ?_
 refine Zm ?_
 refine Z0J rfl rfl func35 rfl rfl (.cons rfl (.cons rfl .nil)) (wholeF vn vd ln ld _ _ hcn hcd ZO ZO hfl.hy f ZO w8 (H8.io mem2) (H8.io mem1)) ?_
 rintro _ w9 ⟨rfl, hG⟩
 have H9 := hG _ _ _ _ H8
 simp only [Zca, Zna] at H9
 refine Zm ?_
 refine Zx (Zx ?_)
 refine Z0u (s := 31) (v' := .int .u64 (fQ (fX d bb) (fY d bb) f)) rfl (congrArg (Value.int .u64) (Int.emod_eq_of_lt hq.1 (Int.lt_trans hq.2 (by decide)))) ?_
 refine Zg ?_
 refine Zg (Z02 (Z01 (Z03 ?_)))
 have H10 := H9.drewn
 refine Z1t (n := 11) [Zz,Zz,Zz,Zz,Zz,Zz,Zz,Zz,Zz,Zz,Zz] (fun wS => (As.blk b1_6 109 [vn, vd, .int .i64 kk, .int .u64 bb]).ok wS) ZK rfl rfl ?_
 apply Zu (L' := [Zy,Zz,Zz,Zz,Zz,Zz,Zz,Zz,Zz,Zz,Zz]) 0 (H10.ok mem0)
 ·intro wS sS
  refine Z0b (Z0R sS) mem0 rfl rfl underlying109 rfl Z32 rfl (.take (.take (.take (.take .nil)))) ?_
  refine Z02 ?_
  exact Z0d rfl
 apply Zu (L' := [Zy,Zy,Zz,Zz,Zz,Zz,Zz,Zz,Zz,Zz,Zz]) 1 (H10.ok mem0)
 ·intro wS sS
  refine Zm (Z02 ?_)
  exact Z0d rfl
 apply Zu (L' := [Zy,Zy,Zy,Zz,Zz,Zz,Zz,Zz,Zz,Zz,Zz]) 2 (H10.ok mem0)
 ·intro wS sS
  refine Zm (Z02 ?_)
  exact Z0d rfl
 apply Zu (L' := [Zy,Zy,Zy,Zz,Zy,Zz,Zz,Zz,Zz,Zz,Zz]) 4 (H10.ok mem0)
 ·intro wS sS
  refine Z0b (Z0R sS) mem0 rfl rfl underlying109 rfl Z32 rfl (.take (.take (.take (.take .nil)))) ?_
  refine Z02 ?_
  exact Z0d rfl
 apply Zu (L' := [Zy,Zy,Zy,Zz,Zy,Zy,Zz,Zz,Zz,Zz,Zz]) 5 (H10.ok mem0)
 ·intro wS sS
  refine Zm (Z02 ?_)
  exact Z0d rfl
 apply Zu (L' := [Zy,Zy,Zy,Zz,Zy,Zy,Zy,Zz,Zz,Zz,Zz]) 6 (H10.ok mem0)
 ·intro wS sS
  refine Z0w rfl rfl rfl rfl (Z0I ZO) ?_
  refine Z02 ?_
  exact Z0d rfl
 apply Zu (L' := [Zy,Zy,Zy,Zz,Zy,Zy,Zy,Zy,Zz,Zz,Zz]) 7 (H10.ok mem0)
 ·intro wS sS
  refine Zm (Z02 ?_)
  exact Z0d rfl
 refine Z0O (L' := [Zy,Zy,Zy,Zy,Zy,Zy,Zy,Zy,Zz,Zz,Zz]) 3 ZK rfl rfl ?_
 refine Zc func36 (readsF vn vd ln ld kk d hk2 bb (fQ (fX d bb) (fY d bb) f) f ⟨hlo, hhi⟩ ZO w9.drew (H10.io mem2) (H10.io mem1)) ?_
 rintro _ w11 ⟨rfl, hG⟩
 have H11 := hG _ _ _ _ H10
 simp only [Zca, Zna] at H11
 refine Z02 ?_
 refine Z0F (H11.ok mem0) ?_
 refine Z0O (L' := [Zy,Zy,Zy,Zy,Zy,Zy,Zy,Zy,Zy,Zz,Zz]) 8 ZK rfl rfl ?_
 refine Zc func36 (readsF vn vd ln ld kk d hk2 bb (fQ (fX d bb) (fY d bb) f + 1) f ⟨hlo, hhi⟩ ZO w11 (H11.io mem2) (H11.io mem1)) ?_
 rintro _ w12 ⟨rfl, hG⟩
 have H12 := hG _ _ _ _ H11
 simp only [Zca, Zna] at H12
 refine Z02 ?_
 refine Z0F (H12.ok mem0) ?_
 apply Zu (L' := [Zy,Zy,Zy,Zy,Zy,Zy,Zy,Zy,Zy,Zy,Zz]) 9 (H12.ok mem0)
 ·intro wS sS
  refine Zg (Z02 ?_)
  exact Z0d rfl
 apply Zu (L' := [Zy,Zy,Zy,Zy,Zy,Zy,Zy,Zy,Zy,Zy,Zy]) 10 (H12.ok mem0)
 ·intro wS sS
  refine Zg (Z02 ?_)
  exact Z0d rfl
 refine Z0W ZK ?_
 refine Z01 ?_
 refine Zk [5, 7, 8, 9, 10, 11] ?_
 refine Z03 (Z03 (Z00 (Zm ?_)))
 first | refine Z1B rfl rfl rfl ?_ | refine Z2o rfl rfl rfl ?_
 refine Z0u (s := 43) (v' := .bool (decide (¬ rdQ d bb (fQ (fX d bb) (fY d bb) f) f))) rfl (by rw [decide_not]) ?_
 refine Zm ?_
 apply Z1a 2 [5, 7, 8, 9, 10, 11] rfl rfl (.cons rfl (.cons rfl (.cons rfl (.cons rfl (.cons rfl (.cons rfl (.cons rfl .nil))))))) rfl rfl (fun _ => rfl) rfl rfl rfl
 ·intro hg8_3
  refine Zm ?_
  first | refine Z1B rfl rfl rfl ?_ | refine Z2o rfl rfl rfl ?_
  refine Z02 ?_
  exact Z0o rfl (.cons rfl (ZT hg8_3) (.cons rfl rfl (.cons rfl rfl (.cons rfl rfl (.cons rfl rfl (.cons rfl rfl (.cons rfl rfl .nil)))))))
  all_goals infer_instance
 refine Z02 (Z01 ?_)
 (first | refine Z0a rfl ?_ ?_ | refine Z06 rfl ?_ ?_) <;> intro hc1
 ·refine Z0E ?_
  refine Z07 ?_
  refine Z0l ?_
  refine Z01 ?_
  refine Zk [5, 7] ?_
  refine Z00 (Zm ?_)
  refine Z0A rfl rfl rfl rfl (Z0i ZO) ?_
  refine Zg (Z02 ?_)
  have hmiss : ¬ hit d bb (fX d bb) (fY d bb) f := fun h => h.elim hc1.1 hc1.2
  obtain ⟨hf3, hno2⟩ := no_next ⟨hlo, hhi⟩ hfl ht ZO hf1 hno hmiss
  refine Z0r (i := (f)) (f - 1) ?_ ?_ (.cons rfl .nil) ?_
  ·first | omega | (simp; omega)
  ·exact ⟨H12, hf3, ZO, hno2⟩
  exact (.cons rfl ZN .nil)
 refine Z0c (Z01 (Z03 (Z00 ?_)))
 have hhit : hit d bb (fX d bb) (fY d bb) f := Classical.byContradiction fun h => hc1 ⟨fun a => h (.inl a), fun b => h (.inr b)⟩
 have hpp := pick_pos (Int.le_of_lt hfl.hx) hfl.hy ht hhit
 have hpb := pick_le (d := d) (b := bb) hq.2
 refine Zm ?_
 refine Zg (Z02 (Z01 ?_))
 refine Zk [4, 5, 8, 9, 10, 11] ?_
 refine Z12 (ι := Int) (fun (m0 : Int) (w' : World) => St w w.heap.size Z0G ([]) w' ∧ m0 = Z2v d bb (fX d bb) (fY d bb) f) (fun (m0 : Int) => [(4, .int .u64 m0)]) [5] (.cons rfl .nil) ?_ ?_
 ·refine Z03 (Z00 (Zm ?_))
  first | refine Z1B rfl rfl rfl ?_ | refine Z2o rfl rfl rfl ?_
  refine Z0u (s := 50) (v' := .bool (decide (¬ rdQ d bb (fQ (fX d bb) (fY d bb) f) f))) rfl (by rw [decide_not]) ?_
  refine Zm ?_
  apply l_or (q := rdQ d bb (fQ (fX d bb) (fY d bb) f + 1) f ∧ (0 < hfS (fX d bb) (fY d bb) f ∨ (hfS (fX d bb) (fY d bb) f = 0 ∧ fQ (fX d bb) (fY d bb) f % 2 = 1))) 14 [4, 5] rfl rfl (.cons rfl (.cons rfl (.cons rfl .nil))) rfl rfl (fun _ => rfl) rfl rfl rfl
  ·intro hg10_3
   refine Zm ?_
   refine Zm ?_
   apply Z1a (q := 0 < hfS (fX d bb) (fY d bb) f ∨ (hfS (fX d bb) (fY d bb) f = 0 ∧ fQ (fX d bb) (fY d bb) f % 2 = 1)) 11 [4, 5, 51] rfl rfl (.cons rfl (.cons rfl (.cons rfl (.cons rfl .nil)))) rfl rfl (fun _ => rfl) rfl rfl rfl
   ·intro hg10_5
    refine Zm ?_
    refine Zw ?_
    refine Zm ?_
    apply l_or (q := hfS (fX d bb) (fY d bb) f = 0 ∧ fQ (fX d bb) (fY d bb) f % 2 = 1) 7 [4, 5, 51, 53] rfl rfl (.cons rfl (.cons rfl (.cons rfl (.cons rfl (.cons rfl .nil))))) rfl rfl (fun _ => rfl) rfl rfl rfl
    ·intro hg10_8
     refine Zm ?_
     refine Ze ?_
     refine Zm ?_
     apply Z1a (q := fQ (fX d bb) (fY d bb) f % 2 = 1) 3 [4, 5, 51, 53, 56] rfl rfl (.cons rfl (.cons rfl (.cons rfl (.cons rfl (.cons rfl (.cons rfl .nil)))))) rfl rfl (fun _ => rfl) rfl rfl rfl
     ·intro hg10_11
      refine Zm ?_
      refine Z2X rfl rfl rfl rfl ZO (Z2Y ZO) ?_
      refine Ze ?_
      refine Z02 ?_
      exact Z0o rfl (.cons rfl (ZT hg10_11) (.cons rfl rfl (.cons rfl rfl (.cons rfl rfl (.cons rfl rfl (.cons rfl rfl .nil))))))
      all_goals infer_instance
     refine Z02 ?_
     exact Z0o rfl (.cons rfl (ZF hg10_8) (.cons rfl rfl (.cons rfl rfl (.cons rfl rfl (.cons rfl rfl .nil)))))
     all_goals infer_instance
    refine Z02 ?_
    exact Z0o rfl (.cons rfl (ZT hg10_5) (.cons rfl rfl (.cons rfl rfl (.cons rfl rfl .nil))))
    all_goals infer_instance
   refine Z02 ?_
   exact Z0o rfl (.cons rfl (ZF hg10_3) (.cons rfl rfl (.cons rfl rfl .nil)))
   all_goals infer_instance
  refine Z02 (Z01 ?_)
  (first | refine Z0a rfl ?_ ?_ | refine Z06 rfl ?_ ?_) <;> intro hc2
  ·refine Z00 (Zm ?_)
   refine Z0w rfl rfl rfl rfl (Z0I ZO) ?_
   refine Zg (Z02 ?_)
   have H15 := St.del .head (St.del (.tail .head) (St.del (.tail (.tail .head)) H12))
   refine Z0v (fQ (fX d bb) (fY d bb) f + 1) ?_ (.cons rfl .nil) ?_
   ·exact ⟨H15, (if_pos (c := upp d bb (fX d bb) (fY d bb) f) hc2).symm⟩
   exact (.cons rfl ZN .nil)
  refine Z0c ?_
  have H18 := St.del .head (St.del (.tail .head) (St.del (.tail (.tail .head)) H12))
  refine Z0v (fQ (fX d bb) (fY d bb) f) ?_ (.cons rfl .nil) ?_
  ·exact ⟨H18, (if_neg (c := upp d bb (fX d bb) (fY d bb) f) hc2).symm⟩
  exact (.cons rfl ZN .nil)
 rintro m0 w19 ⟨H19, hm0d⟩
 show RunC P _ _ _ (_ :: _) _
 refine Z03 (Z0e ?_)
 refine Z0y (ι := Nat × Int) (fun (z0 : Nat × Int) => match z0 with | ⟨j, m⟩ => m.toNat) (fun (z0 : Nat × Int) (w' : World) => match z0 with | ⟨j, m⟩ => St w w.heap.size Z0G ([]) w' ∧ m0 = m * 10 ^ j ∧ 0 < m ∧ m ≤ 1000000000000000000) (fun (z0 : Nat × Int) => match z0 with | ⟨j, m⟩ => [(4, .int .u64 m), (5, .int .i64 (f + j))]) [] (0, m0) ?_ .nil ?_ ?_
 ·exact ⟨H19, by simp, ZO, ZO⟩
 ·exact (.cons rfl ZN (.cons rfl ZN .nil))
 rintro ⟨j, m⟩ w20 ⟨H20, hm0, hmp, hm1⟩
 show RunC P _ _ _ (_ :: _) _
 have hj := pow10_le (j := j) hmp ZO
 refine Z03 (Z03 (Z00 (Zm ?_)))
 refine Z2X rfl rfl rfl rfl ZO (Z2Y ZO) ?_
 refine Ze ?_
 refine Z02 (Z01 ?_)
 refine Zk [4, 5, 71] ?_
 (first | refine Z0a rfl ?_ ?_ | refine Z06 rfl ?_ ?_) <;> intro hc3
 ·refine Z0c (Z01 (Z0e (Z03 (Z00 (Zm ?_)))))
  refine Z3h rfl rfl rfl rfl ZO (q_u64 ZO) ?_
  refine Zg (Z02 (Z01 ?_))
  refine Zk [4, 5] ?_
  refine Z00 (Zm ?_)
  refine Z0w rfl rfl rfl rfl (Z0i ZO) ?_
  refine Zg (Z02 ?_)
  refine Z0C ?_
  refine Z0r (i := (j, m)) (j + 1, m / 10) ?_ ?_ .nil ?_
  ·first | omega | (simp; omega)
  ·exact ⟨H20, pow10_next hm0 ZO, ZO, ZO⟩
  exact (.cons rfl ZN (.cons rfl ZN .nil))
 refine Z0E ?_
 refine Z07 ?_
 refine Z07 ?_
 refine Z0l ?_
 refine Z01 (Z03 (Z00 (Zm ?_)))
 refine Zm ?_
 refine Zg ?_
 refine Zg ?_
 refine Zg (Z02 (Z01 ?_))
 refine Zk [4, 5, 6] ?_
 refine Z0f ?_
 refine Z0m ?_
 refine Z05 ?_
 refine Z05 ?_
 refine Z0m ?_
 refine Z0k results17 (.tmp rfl (.tmp rfl (.tmp rfl .nil))) rfl ?_
 refine ⟨_, rfl, ?_⟩
 exact ⟨_, _, _, rfl, ⟨ZO, fun h => absurd rfl h, fun _ => ⟨d, hk, hltS, ZO, ZO, by rw [← hbb]; exact ⟨t, f, ⟨ht, hf2, hno, hhit⟩, by rw [← hm0d]; exact Z4j.go hm0 ZO⟩⟩⟩, H20.grows⟩
def dl (m : Int) : Nat := (dt0 m.toNat).length
theorem Z57 : dl 0 = 0 := by unfold dl; rw [show (0 : Int).toNat = 0 from rfl, Z1w]; rfl
theorem Z4t {m : Int} (h : 0 < m) : dl m = dl (m / 10) + 1 := by unfold dl; rw [Z24 h, List.length_append]; rfl
theorem dl_le : ∀ {n : Nat} {m : Int}, 0 ≤ m → m < 10 ^ n → dl m ≤ n
 | 0, m, h0, h => by
  rw [show m = 0 by simp at h; omega, Z57]
  exact Nat.le_refl _
 | n + 1, m, h0, h => by
  rcases Int.lt_or_eq_of_le h0 with h1 | h1
  ·rw [Z4t h1]
   rw [Int.pow_succ] at h
   have := dl_le (n := n) (m := m / 10) ZO ZO
   omega
  rw [← h1, Z57]
  omega
theorem Z3w {m : Int} (h : 0 < m) : (dtx m).length = dl m := by unfold dtx dl; rw [if_neg (by omega)]
end Go.Proofs.YtfomhfbmmjhljaaGreatDoor.W
