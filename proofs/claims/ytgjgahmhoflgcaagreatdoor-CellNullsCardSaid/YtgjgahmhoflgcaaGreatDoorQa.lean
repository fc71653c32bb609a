/- the model's floats: plain facts, operations, walk of parse.scaled -/
import Derived.Test.YtgjgahmhoflgcaaGreatDoorCa
import Derived.Test.YtgjgahmhoflgcaaGreatDoorOp
import Derived.Test.YtgjgahmhoflgcaaGreatDoorSk
import Derived.Test.YtgjgahmhoflgcaaGreatDoorGi
import Derived.Test.YtgjgahmhoflgcaaGreatDoorVy
set_option linter.unusedVariables false
set_option linter.unusedSimpArgs false
set_option maxRecDepth 10000
namespace Go.Proofs.YtgjgahmhoflgcaaGreatDoor.W
open Go.Vc Go.RowKit Tryz
/-! ### the model's floats -/
def fk : Kd → FloatKind | .f32 => .f32 | .f64 => .f64
def Kd.fb : Kd → Nat | .f32 => 23 | .f64 => 52
theorem Z65 (d : Kd) : (fk d).format.fractionBits = d.fb ∧ (fk d).format.leastPlace = -(d.l : Int) ∧ (fk d).format.binade = 2 ^ d.fb ∧ ((fk d).format.infRung : Int) = d.I ∧ ((fk d).format.signWeight : Int) = d.S ∧ d.H = 2 ^ d.fb ∧ d.I < d.S ∧ 23 ≤ d.fb ∧ 2 * d.fb + 40 ≤ d.l := by
 cases d <;> exact ⟨by decide, by decide, by decide, by decide +kernel, by decide +kernel, by decide, by decide, by decide, by decide⟩
theorem RndR.frac {H G N D N' D' : Int} {t : Int × Bool × Int} (hD : 0 < D) (hD' : 0 < D') (e : N * D' = N' * D) (h : RndR H G N D t) : RndR H G N' D' t := by
 have le : ∀ X : Int, X * D ≤ N ↔ X * D' ≤ N' := fun X => by
  constructor
  ·intro h
   have h1 := Int.mul_le_mul_of_nonneg_right h (Int.le_of_lt hD')
   rw [e, Int.mul_right_comm] at h1
   exact Int.le_of_mul_le_mul_right h1 hD
  intro h
  have h1 := Int.mul_le_mul_of_nonneg_right h (Int.le_of_lt hD)
  rw [← e, Int.mul_right_comm] at h1
  exact Int.le_of_mul_le_mul_right h1 hD'
 have le2 : ∀ X : Int, X * D ≤ 2 * N ↔ X * D' ≤ 2 * N' := fun X => by
  constructor
  ·intro h
   have h1 := Int.mul_le_mul_of_nonneg_right h (Int.le_of_lt hD')
   rw [Int.mul_assoc 2, e, ← Int.mul_assoc, Int.mul_right_comm] at h1
   exact Int.le_of_mul_le_mul_right h1 hD
  intro h
  have h1 := Int.mul_le_mul_of_nonneg_right h (Int.le_of_lt hD)
  rw [Int.mul_assoc 2, ← e, ← Int.mul_assoc, Int.mul_right_comm] at h1
  exact Int.le_of_mul_le_mul_right h1 hD'
 have ge2 : ∀ X : Int, 2 * N ≤ X * D ↔ 2 * N' ≤ X * D' := fun X => by
  constructor
  ·intro h
   have h1 := Int.mul_le_mul_of_nonneg_right h (Int.le_of_lt hD')
   rw [Int.mul_assoc 2, e, ← Int.mul_assoc, Int.mul_right_comm X] at h1
   exact Int.le_of_mul_le_mul_right h1 hD
  intro h
  have h1 := Int.mul_le_mul_of_nonneg_right h (Int.le_of_lt hD)
  rw [Int.mul_assoc 2, ← e, ← Int.mul_assoc, Int.mul_right_comm X] at h1
  exact Int.le_of_mul_le_mul_right h1 hD'
 have ge : ∀ X : Int, N ≤ X * D ↔ N' ≤ X * D' := fun X => by
  constructor
  ·intro h
   have h1 := Int.mul_le_mul_of_nonneg_right h (Int.le_of_lt hD')
   rw [e, Int.mul_right_comm X] at h1
   exact Int.le_of_mul_le_mul_right h1 hD
  intro h
  have h1 := Int.mul_le_mul_of_nonneg_right h (Int.le_of_lt hD)
  rw [← e, Int.mul_right_comm X] at h1
  exact Int.le_of_mul_le_mul_right h1 hD'
 rcases h with ⟨h1, rfl⟩ | ⟨h1, b0, h2, h3, h4, h5, rfl⟩
 ·exact .inl ⟨(le2 _).1 h1, rfl⟩
 have k5 := le (fv H (b0 + 1))
 have k6 := ge2 (fv H b0 + fv H (b0 + 1))
 have k7 := le2 (fv H b0 + fv H (b0 + 1))
 have k8 := le (fv H b0)
 have k9 := ge (fv H b0)
 have eu : upR H N D b0 ↔ upR H N' D' b0 := by
  unfold upR
  constructor
  ·rintro (h | ⟨h, h'⟩)
   ·exact .inl ZO
   exact .inr ⟨ZO, h'⟩
  rintro (h | ⟨h, h'⟩)
  ·exact .inl ZO
  exact .inr ⟨ZO, h'⟩
 refine .inr ⟨fun h => h1 ((le2 _).2 h), b0, h2, h3, k8.1 h4, ZO, ?_⟩
 rw [show decide (fv H b0 * D = N) = decide (fv H b0 * D' = N') from decide_eq_decide.2 ⟨fun h => by omega, fun h => by omega⟩]
 by_cases hu : upR H N D b0
 ·rw [if_pos hu, if_pos (eu.1 hu)]
 rw [if_neg hu, if_neg (fun h => hu (eu.2 h))]
def vlR (G : Int) (t : Int × Bool × Int) : Int := if t.2.2 = 0 then t.1 else G + 1
theorem RndR.ge_iff {H G N D : Int} {t : Int × Bool × Int} (hH : 0 < H) (hD : 0 < D) (hG : 0 ≤ G) (hGo : G % 2 = 1) (h : RndR H G N D t) {c : Int} (h0 : 0 ≤ c) (hc : c ≤ G) : c + 1 ≤ vlR G t ↔ upR H N D c := by
 have hm : ∀ {a b : Int}, 0 ≤ a → a ≤ b → fv H a * D ≤ fv H b * D := fun ha h => Int.mul_le_mul_of_nonneg_right (Z6M hH ha h) (Int.le_of_lt hD)
 have hlt : ∀ {a : Int}, 0 ≤ a → fv H a * D < fv H (a + 1) * D := fun ha => Int.mul_lt_mul_of_pos_right (fv_lt hH ha) hD
 have hsp : ∀ a : Int, (fv H a + fv H (a + 1)) * D = fv H a * D + fv H (a + 1) * D := fun a => Int.add_mul ..
 rcases h with ⟨h1, rfl⟩ | ⟨h1, b0, h2, h3, h4, h5, rfl⟩
 ·have e : vlR G (0, false, 34) = G + 1 := rfl
  rw [e]
  refine ⟨fun _ => ?_, fun _ => by omega⟩
  unfold upR
  rcases Int.lt_or_eq_of_le hc with h | h
  ·have a1 := hm h0 (Int.le_of_lt h)
   have a2 := hm (a := c + 1) ZO (show c + 1 ≤ G by omega)
   have a3 := hlt hG
   rw [hsp] at h1 ⊢
   left
   omega
  subst h
  rcases Int.lt_or_eq_of_le h1 with h | h
  ·exact .inl h
  exact .inr ⟨h, hGo⟩
 have e : vlR G (if upR H N D b0 then b0 + 1 else b0, decide (fv H b0 * D = N), 0) = if upR H N D b0 then b0 + 1 else b0 := rfl
 rw [e]
 rcases Int.lt_trichotomy c b0 with h | h | h
 ·refine ⟨fun _ => ?_, fun _ => by split <;> omega⟩
  have a1 := hlt h0
  have a2 := hm (a := c + 1) ZO (show c + 1 ≤ b0 by omega)
  unfold upR
  rw [hsp]
  left
  omega
 ·subst h
  split
  ·rename_i hu
   exact ⟨fun _ => hu, fun _ => by omega⟩
  rename_i hu
  exact ⟨fun h => by omega, fun h => absurd h hu⟩
 refine ⟨fun hh => ?_, fun hh => ?_⟩
 ·exfalso
  split at hh <;> omega
 exfalso
 have a1 := hm (a := b0 + 1) ZO (show b0 + 1 ≤ c by omega)
 have a2 := hlt h0
 unfold upR at hh
 rw [hsp] at hh
 omega
theorem RndR.bds {H G N D : Int} {t : Int × Bool × Int} (hG : 0 ≤ G) (hGo : G % 2 = 1) (h : RndR H G N D t) : 0 ≤ vlR G t ∧ vlR G t ≤ G + 1 := by
 rcases h with ⟨h1, rfl⟩ | ⟨h1, b0, h2, h3, h4, h5, rfl⟩
 ·show 0 ≤ G + 1 ∧ G + 1 ≤ G + 1
  omega
 show 0 ≤ (if upR H N D b0 then b0 + 1 else b0) ∧ (if upR H N D b0 then b0 + 1 else b0) ≤ G + 1
 split <;> omega
theorem RndR.mono {H G N D N' D' : Int} {t t' : Int × Bool × Int} (hH : 0 < H) (hD : 0 < D) (hD' : 0 < D') (hG : 0 ≤ G) (hGo : G % 2 = 1) (e : N * D' ≤ N' * D) (h : RndR H G N D t) (h' : RndR H G N' D' t') : vlR G t ≤ vlR G t' := by
 have b1 := h.bds hG hGo
 have b2 := h'.bds hG hGo
 rcases Int.lt_or_le 0 (vlR G t) with h0 | h0
 ·have k := (h.ge_iff hH hD hG hGo (c := vlR G t - 1) ZO ZO).1 ZO
  have k2 : upR H N' D' (vlR G t - 1) := by
   unfold upR at k ⊢
   generalize fv H (vlR G t - 1) + fv H (vlR G t - 1 + 1) = X at k ⊢
   have e2 : ∀ {a b : Int}, a * D' ≤ b * D' → a ≤ b := fun h => Int.le_of_mul_le_mul_right h hD'
   have m1 : X * D' * D = X * D * D' := Int.mul_right_comm ..
   have m2 : 2 * N * D' = 2 * (N * D') := Int.mul_assoc ..
   have m3 : 2 * N' * D = 2 * (N' * D) := Int.mul_assoc ..
   have e3 : ∀ {a b : Int}, a * D < b * D → a < b := fun h => Int.lt_of_mul_lt_mul_right h (Int.le_of_lt hD)
   rcases k with k | ⟨k, k'⟩
   ·left
    have := Int.mul_lt_mul_of_pos_right k hD'
    apply e3
    omega
   have hx : X * D * D' = 2 * N * D' := by rw [k]
   rcases Int.lt_or_eq_of_le e with e1 | e1
   ·left
    apply e3
    omega
   right
   refine ⟨?_, k'⟩
   apply Int.eq_of_mul_eq_mul_right (Int.ne_of_gt hD)
   omega
  have := (h'.ge_iff hH hD' hG hGo (c := vlR G t - 1) ZO ZO).2 k2
  omega
 omega
theorem fv_floor {H D N : Int} (hH : 0 < H) (hD : 0 < D) (hN : 0 ≤ N) : ∃ b, 0 ≤ b ∧ fv H b * D ≤ N ∧ N < fv H (b + 1) * D := by
 have key : ∀ n : Nat, (∃ b, 0 ≤ b ∧ fv H b * D ≤ N ∧ N < fv H (b + 1) * D) ∨ fv H n * D ≤ N := by
  intro n
  induction n with
  | zero => right; rw [show ((0 : Nat) : Int) = 0 from rfl, Z6N hH, Int.zero_mul]; exact hN
  | succ n ih =>
   rcases ih with h | h
   ·exact .inl h
   rcases Int.lt_or_le N (fv H ((n : Int) + 1) * D) with h2 | h2
   ·exact .inl ⟨n, ZO, h, h2⟩
   right
   rw [show ((n + 1 : Nat) : Int) = (n : Int) + 1 from by omega]
   exact h2
 rcases key (N.toNat + 1) with h | h
 ·exact h
 exfalso
 have h1 := fv_add hH (b := 0) ZO (N.toNat + 1)
 rw [Z6N hH, Int.zero_add] at h1
 have h2 := Int.mul_le_mul_of_nonneg_right h1 (Int.le_of_lt hD)
 have h3 := Int.mul_le_mul_of_nonneg_left (show 1 ≤ D by omega) (show (0 : Int) ≤ ((N.toNat + 1 : Nat) : Int) by omega)
 omega
theorem RndR.exists {d : Kd} {N D : Int} (hD : 0 < D) (hN : 0 ≤ N) : ∃ t, RndR d.H (d.I - 1) N D t := by
 have hI := d.I_lt
 obtain ⟨b, h0, h1, h2⟩ := fv_floor (H := d.H) ZO hD hN
 exact ⟨_, RndR.of ZO hD ZO hI.2.1 h0 h1 h2⟩
theorem log2_bd {n : Nat} (h : 0 < n) : 2 ^ n.log2 ≤ n ∧ n < 2 ^ (n.log2 + 1) := ⟨Nat.log2_self_le (by omega), Nat.lt_log2_self⟩
theorem near_q (d : Kd) (A B : Nat) (hB : 0 < B) (mag : Nat) (hmag : mag = 2 * (A / B) + (if A % B = 0 then 0 else 1)) (hq : 2 ^ (d.fb + 1) ≤ A / B) (place : Int) (hn : -(d.l : Int) ≤ place + (mag.log2 : Int) - d.fb) :
  ∃ t, RndR d.H (d.I - 1) ((A : Int) * 2 ^ (place + 1).toNat * 2 ^ d.l) ((B : Int) * 2 ^ (-(place + 1)).toNat) t ∧ (t.2.2 = 0 → ((fk d).format.nearest false mag place : Int) = t.1 ∧ 0 ≤ t.1 ∧ t.1 < d.I) := by
 obtain ⟨f1, f2, f3, f4, f5, f6, f7, f8, f9⟩ := Z65 d
 have hI := d.I_lt
 generalize hq' : A / B = q at *
 have hpos : 0 < mag := by have := Nat.two_pow_pos (d.fb + 1); omega
 obtain ⟨l1, l2⟩ := log2_bd hpos
 have hlog : d.fb + 2 ≤ mag.log2 := by
  have h2 : 2 ^ (d.fb + 2) ≤ mag := by rw [Nat.pow_succ]; omega
  exact (Nat.le_log2 ZO).2 h2
 obtain ⟨k, hk⟩ : ∃ k, mag.log2 = d.fb + k := ⟨mag.log2 - d.fb, ZO⟩
 obtain ⟨u, hu⟩ : ∃ u : Nat, place + (mag.log2 : Int) - d.fb = -(d.l : Int) + u := ⟨(place + (mag.log2 : Int) - d.fb + d.l).toNat, ZO⟩
 obtain ⟨j, hj⟩ : ∃ j, k = j + 2 := ⟨k - 2, ZO⟩
 have hlast : max (place + (mag.log2 : Int) - (d.fb : Int)) (-(d.l : Int)) = -(d.l : Int) + u := by omega
 have hH0 : 0 < d.H := by omega
 -- the digits kept
 generalize hlow : mag / 2 ^ k = low
 have hlo : mag = 2 ^ k * low + mag % 2 ^ k := by rw [← hlow]; exact (Nat.div_add_mod mag (2 ^ k)).symm
 generalize hrest : mag % 2 ^ k = rest at hlo
 have hr : rest < 2 ^ k := by rw [← hrest]; exact Nat.mod_lt _ (Nat.two_pow_pos k)
 have hb1 : 2 ^ d.fb ≤ low := by
  rw [← hlow]; exact (Nat.le_div_iff_mul_le (Nat.two_pow_pos k)).2 (by rw [← Nat.pow_add, ← hk]; exact l1)
 have hb2 : low < 2 ^ (d.fb + 1) := by
  rw [← hlow]; exact (Nat.div_lt_iff_lt_mul (Nat.two_pow_pos k)).2 (by rw [← Nat.pow_add, show d.fb + 1 + k = mag.log2 + 1 from by omega]; exact l2)
 have hnear : (fk d).format.nearest false mag place = min (u * 2 ^ d.fb + (low + (decide (2 ^ k < 2 * rest) || (decide (2 ^ k = 2 * rest) && decide (low % 2 = 1))).toNat)) (fk d).format.infRung := by
  unfold Ieee.Format.nearest
  rw [if_neg ZO]
  simp only [f1, f2, f3, hlast, Ieee.Format.word, Bool.false_eq_true, if_false]
  rw [show (place - (-(d.l : Int) + u)).toNat = 0 from by omega, show (-(d.l : Int) + u - place).toNat = k from by omega, show (-(d.l : Int) + u - -(d.l : Int)).toNat = u from by omega]
  unfold Ieee.Toward.cut
  simp only [Nat.shiftLeft_zero]
  have hmk : min k (mag.log2 + 2) = k := by omega
  simp only [hmk, Nat.one_shiftLeft, hlow, hrest]
  have e1 : (2 ^ k == 2 * rest) = decide (2 ^ k = 2 * rest) := rfl
  have e2 : (low % 2 == 1) = decide (low % 2 = 1) := rfl
  rw [e1, e2]
 have hbits : ∀ c : Nat, (c * B < A ↔ 2 * c < mag) ∧ (c * B = A ↔ 2 * c = mag) := fun c => by
  have hdm := Nat.div_add_mod A B
  rw [hq'] at hdm
  have hrm := Nat.mod_lt A hB
  rcases Nat.lt_trichotomy c q with h | h | h
  ·have : (c + 1) * B ≤ q * B := Nat.mul_le_mul_right B h
   rw [Nat.add_mul, Nat.one_mul, Nat.mul_comm q B] at this
   constructor <;> constructor <;> intro h2 <;> (split at hmag <;> omega)
  ·subst h
   rw [Nat.mul_comm B] at hdm
   split at hmag
   ·constructor <;> constructor <;> intro h2 <;> omega
   constructor <;> constructor <;> intro h2 <;> omega
  have : (q + 1) * B ≤ c * B := Nat.mul_le_mul_right B h
  rw [Nat.add_mul, Nat.one_mul, Nat.mul_comm q B] at this
  constructor <;> constructor <;> intro h2 <;> (split at hmag <;> omega)
 -- the floor
 have hH : d.H = ((2 ^ d.fb : Nat) : Int) := by rw [f6]; simp
 have hpk : 2 ^ k = 4 * 2 ^ j := by rw [hj, Nat.pow_add, Nat.mul_comm]
 have hpk1 : 2 ^ (k - 1) = 2 * 2 ^ j := by rw [hj, show j + 2 - 1 = j + 1 from rfl, Nat.pow_succ, Nat.mul_comm]
 have e0 : fv d.H ((low : Int) + (u : Int) * d.H) = low * 2 ^ u := fv_of hH0 u ZO (by rw [hH]; rw [Nat.pow_succ] at hb2; omega) (.inr (by rw [hH]; omega))
 have e1 : fv d.H ((low : Int) + (u : Int) * d.H + 1) = ((low : Int) + 1) * 2 ^ u := by
  rw [show (low : Int) + (u : Int) * d.H + 1 = ((low : Int) + 1) + (u : Int) * d.H from by omega]
  exact fv_of hH0 u ZO (by rw [hH]; rw [Nat.pow_succ] at hb2; omega) (.inr (by rw [hH]; omega))
 have hN : ∀ X : Nat, ((X : Int) * 2 ^ u) * ((B : Int) * 2 ^ (k - 1)) = ((X * 2 ^ (k - 1) * B : Nat) : Int) * 2 ^ u := fun X => by
  push_cast
  rw [Int.mul_assoc, Int.mul_assoc, Int.mul_comm ((2 : Int) ^ u), Int.mul_comm (B : Int), Int.mul_assoc, Int.mul_assoc]
 have hpu : (0 : Int) < 2 ^ u := Ma.pow_pos ZO u
 have hDp : (0 : Int) < (B : Int) * 2 ^ (k - 1) := Int.mul_pos ZO (Ma.pow_pos ZO _)
 have c1 : fv d.H ((low : Int) + (u : Int) * d.H) * ((B : Int) * 2 ^ (k - 1)) ≤ (A : Int) * 2 ^ u := by
  rw [e0, hN]
  refine Int.mul_le_mul_of_nonneg_right (Int.ofNat_le.2 ?_) (Int.le_of_lt hpu)
  have h1 := hbits (low * 2 ^ (k - 1))
  have : 2 * (low * 2 ^ (k - 1)) ≤ mag := by rw [hpk1]; rw [hpk] at hlo; rw [show 2 * (low * (2 * 2 ^ j)) = 4 * 2 ^ j * low from by rw [Nat.mul_comm low, ← Nat.mul_assoc, ← Nat.mul_assoc]]; omega
  rcases Nat.lt_or_eq_of_le this with h | h
  ·exact Nat.le_of_lt (h1.1.2 h)
  exact Nat.le_of_eq (h1.2.2 h)
 have c2 : (A : Int) * 2 ^ u < fv d.H ((low : Int) + (u : Int) * d.H + 1) * ((B : Int) * 2 ^ (k - 1)) := by
  rw [e1, show ((low : Int) + 1) = ((low + 1 : Nat) : Int) from rfl, hN]
  refine Int.mul_lt_mul_of_pos_right (Int.ofNat_lt.2 ?_) hpu
  have h1 := hbits ((low + 1) * 2 ^ (k - 1))
  have : mag < 2 * ((low + 1) * 2 ^ (k - 1)) := by
   rw [hpk1]; rw [hpk] at hlo hr
   rw [show 2 * ((low + 1) * (2 * 2 ^ j)) = 4 * 2 ^ j * low + 4 * 2 ^ j from by rw [Nat.mul_comm (low + 1), ← Nat.mul_assoc, ← Nat.mul_assoc, Nat.mul_add, Nat.mul_one]]; omega
  rcases Nat.lt_trichotomy ((low + 1) * 2 ^ (k - 1) * B) A with h | h | h
  ·exact absurd (h1.1.1 h) ZO
  ·exact absurd (h1.2.1 h) ZO
  exact h
 have hup : upR d.H ((A : Int) * 2 ^ u) ((B : Int) * 2 ^ (k - 1)) ((low : Int) + (u : Int) * d.H) ↔ (2 ^ k < 2 * rest ∨ (2 ^ k = 2 * rest ∧ low % 2 = 1)) := by
  have h1 := hbits ((2 * low + 1) * 2 ^ j)
  have e3 : (fv d.H ((low : Int) + (u : Int) * d.H) + fv d.H ((low : Int) + (u : Int) * d.H + 1)) * ((B : Int) * 2 ^ (k - 1)) = 2 * ((((2 * low + 1) * 2 ^ j * B : Nat) : Int) * 2 ^ u) := by
   rw [e0, e1, ← Int.add_mul, show (low : Int) + ((low : Int) + 1) = ((2 * low + 1 : Nat) : Int) from by omega, hN, hpk1, show (2 * low + 1) * (2 * 2 ^ j) * B = 2 * ((2 * low + 1) * 2 ^ j * B) from by rw [Nat.mul_left_comm, Nat.mul_assoc]]
   push_cast
   rw [Int.mul_assoc 2]
  have e4 : ((low : Int) + (u : Int) * d.H) % 2 = 1 ↔ low % 2 = 1 := by
   obtain ⟨g, hg⟩ : ∃ g, 2 ^ d.fb = 2 * g := ⟨2 ^ (d.fb - 1), by rw [← Nat.pow_succ', Nat.succ_eq_add_one]; congr 1; omega⟩
   rw [hH, hg, show (u : Int) * ((2 * g : Nat) : Int) = 2 * ((u * g : Nat) : Int) from by push_cast; rw [Int.mul_left_comm]]
   omega
  have e5 : 2 * ((2 * low + 1) * 2 ^ j) = 4 * 2 ^ j * low + 2 * 2 ^ j := by rw [Nat.add_mul, Nat.one_mul, Nat.mul_assoc 2 low, Nat.mul_assoc 4, Nat.mul_comm (2 ^ j) low]; omega
  unfold upR
  rw [e3, e4]
  have m1 : ∀ {a b : Int}, 2 * (a * 2 ^ u) < 2 * (b * 2 ^ u) ↔ a < b := fun {a b} => ⟨fun h => Int.lt_of_mul_lt_mul_right (show a * 2 ^ u < b * 2 ^ u by omega) (Int.le_of_lt hpu), fun h => by have := Int.mul_lt_mul_of_pos_right h hpu; omega⟩
  have m2 : ∀ {a b : Int}, 2 * (a * 2 ^ u) = 2 * (b * 2 ^ u) ↔ a = b := fun {a b} => ⟨fun h => Int.eq_of_mul_eq_mul_right (Int.ne_of_gt hpu) (show a * 2 ^ u = b * 2 ^ u by omega), fun h => by rw [h]⟩
  rw [m1, m2, Int.ofNat_lt, Int.ofNat_inj, h1.1, h1.2, hpk]
  rw [hpk] at hlo
  constructor
  ·rintro (h | ⟨h, h'⟩)
   ·exact .inl ZO
   exact .inr ⟨ZO, h'⟩
  rintro (h | ⟨h, h'⟩)
  ·exact .inl ZO
  exact .inr ⟨ZO, h'⟩
 have hof := RndR.of (H := d.H) (G := d.I - 1) (N := (A : Int) * 2 ^ u) (D := (B : Int) * 2 ^ (k - 1)) (b0 := (low : Int) + (u : Int) * d.H) hH0 hDp ZO hI.2.1 (Int.add_nonneg ZO (Int.mul_nonneg ZO ZO)) c1 c2
 have hfr := hof.frac hDp (D' := (B : Int) * 2 ^ (-(place + 1)).toNat) (N' := (A : Int) * 2 ^ (place + 1).toNat * 2 ^ d.l) (Int.mul_pos ZO (Ma.pow_pos ZO _)) (by
  have ex : u + (-(place + 1)).toNat = (place + 1).toNat + d.l + (k - 1) := by omega
  have : (2 : Int) ^ u * 2 ^ (-(place + 1)).toNat = 2 ^ (place + 1).toNat * 2 ^ d.l * 2 ^ (k - 1) := by rw [← Int.pow_add, ← Int.pow_add, ← Int.pow_add, ex]
  have sl : ∀ p1 p2 : Int, (A : Int) * p1 * ((B : Int) * p2) = (A : Int) * (B : Int) * (p1 * p2) := fun p1 p2 => by rw [Int.mul_assoc, Int.mul_left_comm p1, ← Int.mul_assoc]
  have s2 := Int.mul_assoc (A : Int) ((2 : Int) ^ (place + 1).toNat) ((2 : Int) ^ d.l)
  rw [sl, this, s2, sl])
 obtain ⟨v, hv⟩ : ∃ v, v = if upR d.H ((A : Int) * 2 ^ u) ((B : Int) * 2 ^ (k - 1)) ((low : Int) + (u : Int) * d.H) then (low : Int) + (u : Int) * d.H + 1 else (low : Int) + (u : Int) * d.H := ⟨_, rfl⟩
 rw [← hv] at hfr
 refine ⟨_, hfr, fun h0 => ?_⟩
 by_cases hle : v ≤ d.I - 1
 ·rw [if_pos hle]
  have hmore : (decide (2 ^ k < 2 * rest) || (decide (2 ^ k = 2 * rest) && decide (low % 2 = 1))).toNat = if upR d.H ((A : Int) * 2 ^ u) ((B : Int) * 2 ^ (k - 1)) ((low : Int) + (u : Int) * d.H) then 1 else 0 := by
   by_cases hu2 : upR d.H ((A : Int) * 2 ^ u) ((B : Int) * 2 ^ (k - 1)) ((low : Int) + (u : Int) * d.H)
   ·rw [if_pos hu2]
    rcases hup.1 hu2 with h | ⟨h, h'⟩
    ·rw [decide_eq_true h]; rfl
    rw [decide_eq_true h, decide_eq_true h']; simp
   rw [if_neg hu2]
   have : ¬ (2 ^ k < 2 * rest ∨ (2 ^ k = 2 * rest ∧ low % 2 = 1)) := fun h => hu2 (hup.2 h)
   rw [decide_eq_false (fun h => this (.inl h))]
   by_cases h : 2 ^ k = 2 * rest
   ·rw [decide_eq_false (p := low % 2 = 1) (fun h' => this (.inr ⟨h, h'⟩))]; simp
   rw [decide_eq_false h]; rfl
  have hval : ((u * 2 ^ d.fb + (low + (decide (2 ^ k < 2 * rest) || (decide (2 ^ k = 2 * rest) && decide (low % 2 = 1))).toNat) : Nat) : Int) = v := by
   rw [hmore, hv, hH]
   push_cast
   split <;> omega
  have hnn : (0 : Int) ≤ (u : Int) * d.H := Int.mul_nonneg ZO ZO
  have hv0 : 0 ≤ v := by rw [hv]; split <;> omega
  refine ⟨?_, hv0, by show v < d.I; omega⟩
  show _ = v
  rw [hnear]
  omega
 rw [if_neg hle] at h0
 cases h0
theorem read_word (d : Kd) (u m : Nat) (h1 : 2 ^ d.fb ≤ m) (h2 : m < 2 ^ (d.fb + 1)) (h3 : u * 2 ^ d.fb + m < (fk d).format.infRung) : (fk d).format.read (u * 2 ^ d.fb + m) = .number false m (-(d.l : Int) + u) := by
 obtain ⟨f1, f2, f3, f4, f5, f6, f7, f8, f9⟩ := Z65 d
 have hS : (fk d).format.infRung < (fk d).format.signWeight := by omega
 obtain ⟨r, hr⟩ : ∃ r, m = 2 ^ d.fb + r := ⟨m - 2 ^ d.fb, ZO⟩
 have hrl : r < 2 ^ d.fb := by rw [Nat.pow_succ] at h2; omega
 have e : u * 2 ^ d.fb + m = r + 2 ^ d.fb * (u + 1) := by rw [hr, Nat.mul_add, Nat.mul_one, Nat.mul_comm u]; omega
 have hp : 0 < 2 ^ d.fb := Nat.two_pow_pos _
 unfold Ieee.Format.read
 rw [Nat.div_eq_of_lt ZO, Nat.mod_eq_of_lt (a := u * 2 ^ d.fb + m) ZO, f3, f2]
 dsimp only
 rw [if_neg ZO, if_pos h3, e, Nat.add_mul_mod_self_left, Nat.mod_eq_of_lt hrl, Nat.add_mul_div_left _ _ hp, Nat.div_eq_of_lt hrl, ← hr]
 congr 2
 omega
def jm : Kd → Nat | .f32 => 10 | .f64 => 22
structure Rd (d : Kd) (w : Nat) (m : Nat) (i : Int) (v : Nat) : Prop where
 r : (fk d).format.read w = .number false m i
 m1 : 2 ^ d.fb ≤ m
 m2 : m < 2 ^ (d.fb + 1)
 i1 : -(d.fb : Int) ≤ i
 i2 : i ≤ 30
 v : m * 2 ^ (i + d.fb).toNat = v * 2 ^ d.fb
theorem read_int (d : Kd) (man : Nat) (h0 : 0 < man) (h1 : man ≤ 2 ^ (d.fb + 1)) : ∃ m i, Rd d ((fk d).format.nearest false man 0) m i man := by
 obtain ⟨f1, f2, f3, f4, f5, f6, f7, f8, f9⟩ := Z65 d
 rcases Nat.lt_or_eq_of_le h1 with h | h
 ·obtain ⟨l1, l2⟩ := log2_bd h0
  have hL : man.log2 ≤ d.fb := by have := (Nat.log2_lt ZO).2 h; omega
  obtain ⟨g, hg⟩ : ∃ g, d.fb = man.log2 + g := ⟨d.fb - man.log2, ZO⟩
  obtain ⟨u, hu⟩ : ∃ u : Nat, (man.log2 : Int) - d.fb = -(d.l : Int) + u := ⟨((man.log2 : Int) - d.fb + d.l).toNat, ZO⟩
  have hm1 : 2 ^ d.fb ≤ man * 2 ^ g := by rw [hg, Nat.pow_add]; exact Nat.mul_le_mul_right _ l1
  have hm2 : man * 2 ^ g < 2 ^ (d.fb + 1) := by rw [hg, show man.log2 + g + 1 = man.log2 + 1 + g from by omega, Nat.pow_add]; exact Nat.mul_lt_mul_of_pos_right l2 (Nat.two_pow_pos g)
  have hul : u ≤ d.l := by omega
  have hinf : u * 2 ^ d.fb + man * 2 ^ g < (fk d).format.infRung := by
   have h3 : u * 2 ^ d.fb ≤ d.l * 2 ^ d.fb := Nat.mul_le_mul_right _ hul
   have h4 : d.l * 2 ^ d.fb + 2 ^ (d.fb + 1) ≤ (fk d).format.infRung := by cases d <;> decide
   omega
  have hnear : (fk d).format.nearest false man 0 = u * 2 ^ d.fb + man * 2 ^ g := by
   unfold Ieee.Format.nearest
   have hlast : max (0 + (man.log2 : Int) - (d.fb : Int)) (-(d.l : Int)) = -(d.l : Int) + u := by omega
   rw [if_neg ZO]
   simp only [f1, f2, f3, hlast, Ieee.Format.word, Bool.false_eq_true, if_false]
   rw [show (0 - (-(d.l : Int) + u)).toNat = g from by omega, show (-(d.l : Int) + u - 0).toNat = 0 from by omega, show (-(d.l : Int) + u - -(d.l : Int)).toNat = u from by omega]
   unfold Ieee.Toward.cut
   simp only [Nat.zero_min, Nat.shiftLeft_eq, Nat.pow_zero, Nat.mul_one, Nat.mod_one, Nat.div_one]
   have e : (decide (1 < 2 * 0) || (1 == 2 * 0 && man * 2 ^ g % 2 == 1)).toNat = 0 := by simp
   rw [e]
   omega
  rw [hnear]
  refine ⟨man * 2 ^ g, -(d.l : Int) + u, read_word d u _ hm1 hm2 hinf, hm1, hm2, ZO, ZO, ?_⟩
  rw [show (-(d.l : Int) + u + d.fb).toNat = man.log2 from by omega, Nat.mul_assoc, ← Nat.pow_add, hg, Nat.add_comm g]
 subst h
 cases d
 ·exact ⟨2 ^ 23, 1, by decide +kernel, by decide, by decide, by decide, by decide, by decide⟩
 exact ⟨2 ^ 52, 1, by decide +kernel, by decide, by decide, by decide, by decide, by decide⟩
def pw (d : Kd) (j : Nat) : Nat := (fk d).format.nearest false (10 ^ j) 0
theorem pw_read (d : Kd) {j : Nat} (h : j ≤ jm d) : ∃ m i, Rd d (pw d j) m i (10 ^ j) := by
 cases d
 ·have k : ∀ j : Nat, j < 11 → (fk .f32).format.read (pw .f32 j) = .number false (10 ^ j * 2 ^ 23 / 2 ^ (10 ^ j).log2) (((10 ^ j).log2 : Int) - 23) ∧ 2 ^ 23 ≤ 10 ^ j * 2 ^ 23 / 2 ^ (10 ^ j).log2 ∧ 10 ^ j * 2 ^ 23 / 2 ^ (10 ^ j).log2 < 2 ^ 24 ∧ (10 ^ j).log2 ≤ 53 ∧ 10 ^ j * 2 ^ 23 / 2 ^ (10 ^ j).log2 * 2 ^ (10 ^ j).log2 = 10 ^ j * 2 ^ 23 := by decide +kernel
  obtain ⟨a, b, c, e, f⟩ := k j (by simp only [jm] at h; omega)
  exact ⟨_, _, a, b, c, by simp only [Kd.fb]; omega, ZO, by simp only [Kd.fb]; rw [show (((10 ^ j : Nat).log2 : Int) - 23 + ((23 : Nat) : Int)).toNat = (10 ^ j : Nat).log2 from by omega]; exact f⟩
 have k : ∀ j : Nat, j < 23 → (fk .f64).format.read (pw .f64 j) = .number false (10 ^ j * 2 ^ 52 / 2 ^ (10 ^ j).log2) (((10 ^ j).log2 : Int) - 52) ∧ 2 ^ 52 ≤ 10 ^ j * 2 ^ 52 / 2 ^ (10 ^ j).log2 ∧ 10 ^ j * 2 ^ 52 / 2 ^ (10 ^ j).log2 < 2 ^ 53 ∧ (10 ^ j).log2 ≤ 82 ∧ 10 ^ j * 2 ^ 52 / 2 ^ (10 ^ j).log2 * 2 ^ (10 ^ j).log2 = 10 ^ j * 2 ^ 52 := by decide +kernel
 obtain ⟨a, b, c, e, f⟩ := k j (by simp only [jm] at h; omega)
 exact ⟨_, _, a, b, c, by simp only [Kd.fb]; omega, ZO, by simp only [Kd.fb]; rw [show (((10 ^ j : Nat).log2 : Int) - 52 + ((52 : Nat) : Int)).toNat = (10 ^ j : Nat).log2 from by omega]; exact f⟩
theorem pw_mul (d : Kd) {j : Nat} (h : j < jm d) : (fk d).format.mul (pw d j) (pw d 1) = some (pw d (j + 1)) := by
 cases d
 ·have k : ∀ j : Nat, j < 10 → (fk .f32).format.mul (pw .f32 j) (pw .f32 1) = some (pw .f32 (j + 1)) := by decide +kernel
  exact k j h
 have k : ∀ j : Nat, j < 22 → (fk .f64).format.mul (pw .f64 j) (pw .f64 1) = some (pw .f64 (j + 1)) := by decide +kernel
 exact k j h
theorem big_fv (d : Kd) : ((2 : Int) ^ (d.fb + 1) * 10 ^ jm d) * 2 ^ d.l < fv d.H (d.I - 1) := by cases d <;> decide +kernel
theorem short_fin (d : Kd) {man e : Nat} (h1 : man ≤ 2 ^ (d.fb + 1)) (he : e ≤ jm d) {D : Int} (hD : 1 ≤ D) {N : Int} (hN : N ≤ (man : Int) * 10 ^ e * 2 ^ d.l) {t : Int × Bool × Int} (h : RndR d.H (d.I - 1) N D t) : t.2.2 = 0 := by
 have hI := d.I_lt
 rcases h with ⟨h, rfl⟩ | ⟨_, _, _, _, _, _, rfl⟩
 ·exfalso
  have hb := big_fv d
  have hl := fv_lt (H := d.H) ZO (b := d.I - 1) ZO
  have h0 := fv_nonneg (H := d.H) ZO (b := d.I - 1) ZO
  have hm : (man : Int) * 10 ^ e * 2 ^ d.l ≤ (2 : Int) ^ (d.fb + 1) * 10 ^ jm d * 2 ^ d.l := by
   have a1 : man * 10 ^ e * 2 ^ d.l ≤ 2 ^ (d.fb + 1) * 10 ^ jm d * 2 ^ d.l := Nat.mul_le_mul_right _ (Nat.mul_le_mul h1 (Nat.pow_le_pow_right ZO he))
   exact_mod_cast a1
  have hs := Int.mul_le_mul_of_nonneg_left hD (show 0 ≤ fv d.H (d.I - 1) + fv d.H (d.I - 1 + 1) by omega)
  omega
 rfl
theorem short_mul (d : Kd) {x man e : Nat} {m : Nat} {i : Int} (hx : Rd d x m i man) (h1 : man ≤ 2 ^ (d.fb + 1)) (he : e ≤ jm d) :
  ∃ b t, (fk d).format.mul x (pw d e) = some b ∧ RndR d.H (d.I - 1) ((man : Int) * 10 ^ e * 2 ^ d.l) 1 t ∧ t.2.2 = 0 ∧ (b : Int) = t.1 ∧ 0 ≤ t.1 ∧ t.1 < d.I := by
 obtain ⟨f1, f2, f3, f4, f5, f6, f7, f8, f9⟩ := Z65 d
 obtain ⟨n, j, hp⟩ := pw_read d he
 have hmn : 2 ^ (d.fb + d.fb) ≤ m * n := by rw [Nat.pow_add]; exact Nat.mul_le_mul hx.m1 hp.m1
 have hmn2 : 2 ^ (d.fb + 2) ≤ m * n := Nat.le_trans (Nat.pow_le_pow_right ZO ZO) hmn
 have hp0 := Nat.two_pow_pos (d.fb + 2)
 have hlog : d.fb + d.fb ≤ (m * n).log2 := (Nat.le_log2 ZO).2 hmn
 have hi1 := hx.i1
 have hj1 := hp.i1
 obtain ⟨t, ht, hb⟩ := near_q d (m * n) 2 ZO (m * n) (by split <;> omega) (by rw [Nat.pow_succ] at hmn2 ⊢; omega) (i + j) ZO
 have hfr := ht.frac (Int.mul_pos ZO (Ma.pow_pos ZO _)) (D' := 1) (N' := (man : Int) * 10 ^ e * 2 ^ d.l) ZO (by
  obtain ⟨K, hK⟩ : ∃ K : Nat, (K : Int) = i + j + 2 * d.fb := ⟨(i + j + 2 * d.fb).toNat, ZO⟩
  have hv : ((m * n : Nat) : Int) * 2 ^ K = (man : Int) * 10 ^ e * 2 ^ (2 * d.fb) := by
   have h2 : m * n * 2 ^ K = man * 10 ^ e * 2 ^ (2 * d.fb) := by
    rw [show K = (i + d.fb).toNat + (j + d.fb).toNat from by omega, Nat.pow_add, Nat.mul_mul_mul_comm, hx.v, hp.v, Nat.mul_mul_mul_comm, ← Nat.pow_add, Nat.two_mul]
   exact_mod_cast h2
  have hc : (0 : Int) < 2 ^ (2 * d.fb) := Ma.pow_pos ZO _
  apply Int.eq_of_mul_eq_mul_right (Int.ne_of_gt hc)
  generalize hX : ((m * n : Nat) : Int) = X at *
  have p1 : (2 : Int) ^ (i + j + 1).toNat * 2 ^ (2 * d.fb) = 2 ^ K * (2 * 2 ^ (-(i + j + 1)).toNat) := by
   rw [← Int.pow_add, Int.mul_comm (2 : Int), ← Int.pow_succ, ← Int.pow_add]
   congr 1
   omega
  generalize (2 : Int) ^ (i + j + 1).toNat = a6 at *
  generalize (2 : Int) ^ (2 * d.fb) = a2 at *
  generalize (2 : Int) ^ K = aK at *
  generalize (2 : Int) ^ (-(i + j + 1)).toNat = a7 at *
  generalize (10 : Int) ^ e = a4 at *
  generalize (2 : Int) ^ d.l = a5 at *
  have s1 : X * a6 * a5 * 1 * a2 = X * (a6 * a2) * a5 := by
   simp only [Int.mul_one, Int.mul_assoc, Int.mul_left_comm, Int.mul_comm]
  have s2 : (man : Int) * a4 * a5 * (((2 : Nat) : Int) * a7) * a2 = ((man : Int) * a4 * a2) * (2 * a7) * a5 := by
   rw [show ((2 : Nat) : Int) = 2 from rfl]
   simp only [Int.mul_assoc, Int.mul_left_comm, Int.mul_comm]
  rw [s1, s2, p1, ← hv]
  simp only [Int.mul_assoc])
 have h0 := short_fin d h1 he (D := 1) ZO (Int.le_refl _) hfr
 obtain ⟨b1, b2, b3⟩ := hb h0
 refine ⟨_, t, ?_, hfr, h0, b1, b2, b3⟩
 unfold Ieee.Format.mul
 rw [hx.r, hp.r]
 rfl
theorem short_div (d : Kd) {x man e : Nat} {m : Nat} {i : Int} (hx : Rd d x m i man) (h1 : man ≤ 2 ^ (d.fb + 1)) (he : e ≤ jm d) :
  ∃ b t, (fk d).format.div x (pw d e) = some b ∧ RndR d.H (d.I - 1) ((man : Int) * 2 ^ d.l) (10 ^ e) t ∧ t.2.2 = 0 ∧ (b : Int) = t.1 ∧ 0 ≤ t.1 ∧ t.1 < d.I := by
 obtain ⟨f1, f2, f3, f4, f5, f6, f7, f8, f9⟩ := Z65 d
 obtain ⟨n, j, hp⟩ := pw_read d he
 have lm : ∀ {z : Nat}, 2 ^ d.fb ≤ z → z < 2 ^ (d.fb + 1) → z.log2 = d.fb := fun {z} a b => by
  have hz : z ≠ 0 := by have := Nat.two_pow_pos d.fb; omega
  have c1 := (Nat.le_log2 hz).2 a
  have c2 := (Nat.log2_lt hz).2 b
  omega
 have lm1 := lm hx.m1 hx.m2
 have lm2 := lm hp.m1 hp.m2
 have hn0 : 0 < n := by have := Nat.two_pow_pos d.fb; have := hp.m1; omega
 have hq : 2 ^ (d.fb + 1) ≤ m * 2 ^ (d.fb + 2) / n := by
  refine (Nat.le_div_iff_mul_le hn0).2 ?_
  have a1 : 2 ^ (d.fb + 1) * n ≤ 2 ^ (d.fb + 1) * 2 ^ (d.fb + 1) := Nat.mul_le_mul_left _ (Nat.le_of_lt hp.m2)
  have a2 : 2 ^ d.fb * 2 ^ (d.fb + 2) ≤ m * 2 ^ (d.fb + 2) := Nat.mul_le_mul_right _ hx.m1
  rw [← Nat.pow_add] at a1 a2
  rw [show d.fb + (d.fb + 2) = d.fb + 1 + (d.fb + 1) from by omega] at a2
  omega
 have hi1 := hx.i1
 have hj1 := hp.i2
 have hmg : ∃ mag, mag = 2 * (m * 2 ^ (d.fb + 2) / n) + (if m * 2 ^ (d.fb + 2) % n = 0 then 0 else 1) := ⟨_, rfl⟩
 obtain ⟨mag, hmag⟩ := hmg
 have hlog : d.fb + 2 ≤ mag.log2 := by
  have hp0 := Nat.two_pow_pos (d.fb + 1)
  refine (Nat.le_log2 ZO).2 ?_
  rw [Nat.pow_succ]
  omega
 obtain ⟨t, ht, hb⟩ := near_q d (m * 2 ^ (d.fb + 2)) n hn0 mag hmag hq (i - j - ((d.fb + 2 : Nat) : Int) - 1) ZO
 have hfr := ht.frac (Int.mul_pos ZO (Ma.pow_pos ZO _)) (D' := 10 ^ e) (N' := (man : Int) * 2 ^ d.l) (Ma.pow_pos ZO _) (by
  have hp1 := hp.i1
  have hv : ((m : Nat) : Int) * 10 ^ e * 2 ^ (i + d.fb).toNat = (man : Int) * n * 2 ^ (j + d.fb).toNat := by
   have h2 : m * 10 ^ e * 2 ^ (i + d.fb).toNat * 2 ^ d.fb = man * n * 2 ^ (j + d.fb).toNat * 2 ^ d.fb := by
    have e1 : m * 10 ^ e * 2 ^ (i + d.fb).toNat * 2 ^ d.fb = (m * 2 ^ (i + d.fb).toNat) * (10 ^ e * 2 ^ d.fb) := by simp only [Nat.mul_assoc, Nat.mul_left_comm, Nat.mul_comm]
    have e2 : man * n * 2 ^ (j + d.fb).toNat * 2 ^ d.fb = (man * 2 ^ d.fb) * (n * 2 ^ (j + d.fb).toNat) := by simp only [Nat.mul_assoc, Nat.mul_left_comm, Nat.mul_comm]
    rw [e1, e2, hx.v, hp.v]
   have h3 := Nat.eq_of_mul_eq_mul_right (Nat.two_pow_pos d.fb) h2
   exact_mod_cast h3
  have hc : (0 : Int) < 2 ^ (j + d.fb).toNat := Ma.pow_pos ZO _
  apply Int.eq_of_mul_eq_mul_right (Int.ne_of_gt hc)
  have ez : i - j - ((d.fb + 2 : Nat) : Int) - 1 + 1 = i - j - ((d.fb + 2 : Nat) : Int) := by omega
  rw [ez]
  have p1 : (2 : Int) ^ (d.fb + 2) * 2 ^ (i - j - ((d.fb + 2 : Nat) : Int)).toNat * 2 ^ (j + d.fb).toNat = 2 ^ (i + d.fb).toNat * 2 ^ (-(i - j - ((d.fb + 2 : Nat) : Int))).toNat := by
   rw [← Int.pow_add, ← Int.pow_add, ← Int.pow_add]
   congr 1
   omega
  rw [Int.natCast_mul, show ((2 ^ (d.fb + 2) : Nat) : Int) = (2 : Int) ^ (d.fb + 2) from by simp]
  generalize i - j - ((d.fb + 2 : Nat) : Int) = z at *
  generalize (2 : Int) ^ (d.fb + 2) = a1 at *
  generalize (2 : Int) ^ (j + d.fb).toNat = a2 at *
  generalize (2 : Int) ^ (i + d.fb).toNat = a3 at *
  generalize (10 : Int) ^ e = a4 at *
  generalize (2 : Int) ^ d.l = a5 at *
  generalize (2 : Int) ^ z.toNat = a6 at *
  generalize (2 : Int) ^ (-z).toNat = a7 at *
  have s1 : (m : Int) * a1 * a6 * a5 * a4 * a2 = ((m : Int) * a4) * (a1 * a6 * a2) * a5 := by
   simp only [Int.mul_assoc, Int.mul_left_comm, Int.mul_comm]
  have s2 : (man : Int) * a5 * ((n : Int) * a7) * a2 = ((man : Int) * n * a2) * a7 * a5 := by
   simp only [Int.mul_assoc, Int.mul_left_comm, Int.mul_comm]
  rw [s1, s2, p1, ← hv]
  simp only [Int.mul_assoc])
 have hle : (man : Int) * 2 ^ d.l ≤ (man : Int) * 10 ^ e * 2 ^ d.l := by
  have a1 : man * 1 * 2 ^ d.l ≤ man * 10 ^ e * 2 ^ d.l := Nat.mul_le_mul_right _ (Nat.mul_le_mul_left _ (Nat.one_le_pow _ _ ZO))
  rw [Nat.mul_one] at a1
  exact_mod_cast a1
 have h0 := short_fin d h1 he (D := 10 ^ e) (Ma.pow_pos ZO _) hle hfr
 obtain ⟨b1, b2, b3⟩ := hb h0
 refine ⟨_, t, ?_, hfr, h0, b1, b2, b3⟩
 unfold Ieee.Format.div
 rw [hx.r, hp.r]
 unfold Ieee.Datum.quotient
 dsimp only
 rw [if_neg ZO, f1, lm1, lm2, show d.fb + 2 + d.fb - d.fb = d.fb + 2 from by omega, Nat.shiftLeft_eq]
 have hs : (m * 2 ^ (d.fb + 2) % n != 0).toNat = if m * 2 ^ (d.fb + 2) % n = 0 then 0 else 1 := by
  by_cases h : m * 2 ^ (d.fb + 2) % n = 0 <;> simp [h]
 rw [hs, ← hmag]
 rfl
def fltT (d : Kd) (m e : Int) (t : Int × Bool × Int) : Prop := RndR d.H (d.I - 1) (m * 10 ^ e.toNat * 2 ^ d.l) (10 ^ (-e).toNat) t
section
variable {P : Program} {N : Nat} {ops : Array Oper} {Q : Z26} {ρ : Env} {w w0 : World} {rest : List Oper} {d : Nat} {ty : TypeId} {pos : String} {af : Array Edge} {g : Option (Nat × Bool)}
theorem Z6Y {x : Operand} {k : IntKind} {f : FloatKind} {m : Int} {S T : TypeId} (hg : Z0t ops ρ g = true) (hN : Nat.blt d N = true) (hS : P.underlying S = some (.int k)) (hT : P.underlying T = some (.float f)) (hx : Z0g ρ x = some (.int k m)) (n : RunL P N ops Q rest ((d, .float f (f.nearest m)) :: ρ) w) : RunL P N ops Q (⟨some d, .convert S T x, ty, pos, af, g⟩ :: rest) ρ w :=
 Z1n hg rfl hN (fun a ha => by simp [execOp, ha.eval hx, convert, run_underlying hS, run_underlying hT, Conv.intToFloat]) n
theorem l_fmul {x y : Operand} {f : FloatKind} {a b r : Nat} {T U : TypeId} (hg : Z0t ops ρ g = true) (hN : Nat.blt d N = true) (hx : Z0g ρ x = some (.float f a)) (hy : Z0g ρ y = some (.float f b)) (hr : f.format.mul a b = some r) (n : RunL P N ops Q rest ((d, .float f r) :: ρ) w) : RunL P N ops Q (⟨some d, .binOp .mul T x y U, ty, pos, af, g⟩ :: rest) ρ w :=
 Z1n hg rfl hN (fun v hv => by simp [execOp, hv.eval hx, hv.eval hy, eqGuard, binOp, Op.floatArith, hr]) n
theorem l_fdiv {x y : Operand} {f : FloatKind} {a b r : Nat} {T U : TypeId} (hg : Z0t ops ρ g = true) (hN : Nat.blt d N = true) (hx : Z0g ρ x = some (.float f a)) (hy : Z0g ρ y = some (.float f b)) (hr : f.format.div a b = some r) (n : RunL P N ops Q rest ((d, .float f r) :: ρ) w) : RunL P N ops Q (⟨some d, .binOp .quo T x y U, ty, pos, af, g⟩ :: rest) ρ w :=
 Z1n hg rfl hN (fun v hv => by simp [execOp, hv.eval hx, hv.eval hy, eqGuard, binOp, Op.floatArith, hr]) n
theorem l_fneg {x : Operand} {f : FloatKind} {a : Nat} {T : TypeId} (hg : Z0t ops ρ g = true) (hN : Nat.blt d N = true) (hx : Z0g ρ x = some (.float f a)) (n : RunL P N ops Q rest ((d, .float f (Op.negFloat f a)) :: ρ) w) : RunL P N ops Q (⟨some d, .unOp .neg T x, ty, pos, af, g⟩ :: rest) ρ w :=
 Z1n hg rfl hN (fun v hv => by simp [execOp, hv.eval hx, Op.unary]) n
theorem run_f64bits (b : Nat) (w : World) : (Extern.MathFloatBits.float64bits #[.float .f64 b]).run P w = .ok (.int .u64 b) w := rfl
theorem run_f32bits (b : Nat) (w : World) : (Extern.MathFloatBits.float32bits #[.float .f32 b]).run P w = .ok (.int .u32 b) w := rfl
end
theorem Z6Z (d : Kd) (n : Nat) : (fk d).nearest (n : Int) = (fk d).format.nearest false n 0 := by
 unfold FloatKind.nearest FloatKind.encode
 rw [decide_eq_false ZO, Int.natAbs_natCast]
 rfl
theorem pw_zero (d : Kd) : (fk d).nearest 1 = pw d 0 := Z6Z d 1
theorem pw_one32 : pw .f32 1 = 1092616192 := by decide +kernel
theorem pw_one64 : pw .f64 1 = 4621819117588971520 := by decide +kernel
theorem pw_mul32 {j : Nat} (h : j < 10) : FloatKind.f32.format.mul (pw .f32 j) 1092616192 = some (pw .f32 (j + 1)) := by rw [← pw_one32]; exact pw_mul .f32 h
theorem pw_mul64 {j : Nat} (h : j < 22) : FloatKind.f64.format.mul (pw .f64 j) 4621819117588971520 = some (pw .f64 (j + 1)) := by rw [← pw_one64]; exact pw_mul .f64 h
theorem Z66 (d : Kd) {b : Nat} (h : (b : Int) < d.I) : Op.negFloat (fk d) b = b + d.S.toNat := by
 have key : ∀ n : Nat, b < 2 ^ n → b ^^^ 2 ^ n = b + 2 ^ n := fun n hb => by
  have : 2 ^ n * 0 + b ^^^ 2 ^ n = 2 ^ n * (0 ^^^ 1) + (b ^^^ 0) := by rw [← nat_xor hb (Nat.two_pow_pos n)]; simp
  rw [Nat.mul_zero, Nat.zero_add, Nat.xor_zero, Nat.zero_xor, Nat.mul_one] at this
  omega
 cases d
 ·exact key 31 (by simp only [Kd.I] at h; omega)
 exact key 63 (by simp only [Kd.I] at h; omega)
theorem flt_mul {d : Kd} {man e : Nat} {t : Int × Bool × Int} {x : Int} (hx : x = (e : Int)) (h : RndR d.H (d.I - 1) ((man : Int) * 10 ^ e * 2 ^ d.l) 1 t) : fltT d man x t := by
 unfold fltT
 rw [hx, Int.toNat_natCast, show (-(e : Int)).toNat = 0 from by omega]
 exact h
theorem flt_div {d : Kd} {man e : Nat} {t : Int × Bool × Int} {x : Int} (hx : x = -(e : Int)) (h : RndR d.H (d.I - 1) ((man : Int) * 2 ^ d.l) (10 ^ e) t) : fltT d man x t := by
 unfold fltT
 rw [hx, Int.neg_neg, Int.toNat_natCast, show (-(e : Int)).toNat = 0 from by omega, Int.pow_zero, Int.mul_one]
 exact h
theorem scaled32 (man : Nat) (h0 : 0 < man) (h1 : man ≤ 16777216) (e : Int) (he : -10 ≤ e ∧ e ≤ 10) (neg : Bool) (w : World) :
  Z0f P 233 [.int .u64 (man : Int), .int .i64 e, .bool neg] w fun r w' => ∃ (b : Nat) (t : Int × Bool × Int), r = .float .f32 (if neg = true then b + (Kd.S .f32).toNat else b) ∧ fltT .f32 man e t ∧ t.2.2 = 0 ∧ (b : Int) = t.1 ∧ 0 ≤ t.1 ∧ t.1 < Kd.I .f32 ∧ w = w' := by
 refine Z0o func233 rfl ntmps233 rfl ?_
 obtain ⟨m, i, hrd⟩ := read_int .f32 man h0 h1
 have hje : e.natAbs ≤ jm .f32 := by simp only [jm]; omega
 refine Z03 (Z00 (Zg (Z01 (Z02 ?_))))
 refine Zk [0, 1, 2] ?_
 refine Z03 (Z00 (Zm ?_))
 refine Z6Y rfl rfl underlying24 underlying316 rfl ?_
 refine Z0j (s := 10) (v' := .float .f32 ((fk .f32).format.nearest false man 0)) rfl (congrArg (Value.float .f32) (Z6Z .f32 man)) ?_
 refine Z6Y rfl rfl underlying3 underlying316 rfl ?_
 refine Z0j (s := 11) (v' := .float .f32 (pw .f32 0)) rfl (congrArg (Value.float .f32) (pw_zero .f32)) ?_
 refine Zg (Zg (Z01 (Z02 ?_)))
 refine Zk [1, 2, 7, 8] ?_
 refine Z03 (Z03 (Z00 (Zm (Zm ?_))))
 refine Z5M rfl rfl rfl (Z0l ZO) ?_
 refine Z5T rfl rfl rfl rfl ?_
 refine Zm (Z01 (Z02 ?_))
 refine Zk [1, 2, 7, 8, 15, 16] ?_
 refine Z0d ?_
 refine Z0z (ι := Nat) (fun (j : Nat) => e.natAbs - j) (fun (j : Nat) (w' : World) => w = w' ∧ j ≤ e.natAbs) (fun (j : Nat) => [(8, .float .f32 (pw .f32 j)), (16, .int .i64 (j : Int))]) [1, 2, 7, 15] (0) ?_ (.cons rfl (.cons rfl (.cons rfl (.cons rfl .nil)))) ?_ ?_
 ·exact ⟨rfl, ZO⟩
 ·exact (.cons rfl ZN (.cons rfl ZN .nil))
 rintro j _ ⟨rfl, hj⟩
 show RunC P _ _ _ (_ :: _) _
 refine Z03 (Z00 ?_)
 refine Zl ?_
 refine Z01 (Z02 (Z03 ?_))
 (first | refine Z0c rfl ?_ ?_ | refine Z08 rfl ?_ ?_) <;> intro hc0
 ·refine Z0a (Z02 ?_)
  refine Zk [1, 2, 7, 8, 15, 16] ?_
  refine Z03 (Z0d (Z00 (Zm ?_)))
  refine l_fmul rfl rfl rfl rfl (pw_mul32 ZO) ?_
  refine Zg (Z01 ?_)
  refine Z0F ?_
  refine Z02 ?_
  refine Zk [1, 2, 7, 8, 15, 16] ?_
  refine Z00 ?_
  refine Z0y rfl rfl rfl rfl (Z0l ZO) ?_
  refine Zm (Z01 ?_)
  refine Z0p (i := (j)) (j + 1) ?_ ?_ (.cons rfl (.cons rfl (.cons rfl (.cons rfl .nil)))) ?_
  ·first | omega | (simp; omega)
  ·exact ⟨rfl, ZO⟩
  exact (.cons rfl ZN (.cons rfl ZN .nil))
 refine Z0H ?_
 refine Z06 ?_
 refine Z06 ?_
 refine Z0h ?_
 refine Z02 ?_
 refine Zk [1, 2, 7, 8] ?_
 refine Z03 (Z03 (Z00 (Zm ?_)))
 refine Zl ?_
 refine Z01 (Z02 ?_)
 refine Zk [2, 7, 8, 22] ?_
 (first | refine Z0c rfl ?_ ?_ | refine Z08 rfl ?_ ?_) <;> intro hc1
 ·refine Z00 ?_
  obtain ⟨b, t, hb, ht, ht0, hbt, hbp, hbi⟩ := short_div .f32 hrd h1 hje
  obtain rfl : e.natAbs = j := by omega
  have hf := flt_div (x := e) ZO ht
  refine Zm (Zm ?_)
  refine l_fdiv rfl rfl rfl rfl hb ?_
  refine Zg (Z01 (Z02 ?_))
  refine Zk [2, 7] ?_
  refine Z03 (Z03 (Z00 (Zm (Z01 (Z02 ?_)))))
  refine Zk [7, 29] ?_
  (first | refine Z0c rfl ?_ ?_ | refine Z08 rfl ?_ ?_) <;> intro hc2
  ·refine Z03 (Z00 (Zm ?_))
   refine l_fneg rfl rfl rfl ?_
   refine Z0j (s := 31) (v' := .float .f32 (b + (Kd.S .f32).toNat)) rfl (congrArg (Value.float .f32) (Z66 .f32 ZO)) ?_
   refine Zg (Z01 (Z02 ?_))
   refine Zk [6] ?_
   refine Z0i ?_
   refine Z07 ?_
   refine Z0e results233 rfl ?_
   refine ⟨_, rfl, ?_⟩
   subst_vars
   exact ⟨b, t, rfl, hf, ht0, hbt, hbp, hbi, rfl⟩
  refine Z0a (Z02 ?_)
  refine Zk [7] ?_
  refine Z03 (Z00 (Zm (Zg (Z01 (Z02 ?_)))))
  refine Zk [6] ?_
  refine Z0i ?_
  refine Z0e results233 rfl ?_
  refine ⟨_, rfl, ?_⟩
  obtain rfl : neg = false := by simpa using hc2
  exact ⟨b, t, rfl, hf, ht0, hbt, hbp, hbi, rfl⟩
 refine Z00 ?_
 obtain ⟨b, t, hb, ht, ht0, hbt, hbp, hbi⟩ := short_mul .f32 hrd h1 hje
 obtain rfl : e.natAbs = j := by omega
 have hf := flt_mul (x := e) ZO ht
 refine Zm (Zm ?_)
 refine l_fmul rfl rfl rfl rfl hb ?_
 refine Zg (Z01 (Z02 ?_))
 refine Zk [2, 7] ?_
 refine Z03 (Z03 (Z00 (Zm (Z01 (Z02 ?_)))))
 refine Zk [7, 29] ?_
 (first | refine Z0c rfl ?_ ?_ | refine Z08 rfl ?_ ?_) <;> intro hc3
 ·refine Z03 (Z00 (Zm ?_))
  refine l_fneg rfl rfl rfl ?_
  refine Z0j (s := 31) (v' := .float .f32 (b + (Kd.S .f32).toNat)) rfl (congrArg (Value.float .f32) (Z66 .f32 ZO)) ?_
  refine Zg (Z01 (Z02 ?_))
  refine Zk [6] ?_
  refine Z0i ?_
  refine Z07 ?_
  refine Z0e results233 rfl ?_
  refine ⟨_, rfl, ?_⟩
  subst_vars
  exact ⟨b, t, rfl, hf, ht0, hbt, hbp, hbi, rfl⟩
 refine Z0a (Z02 ?_)
 refine Zk [7] ?_
 refine Z03 (Z00 (Zm (Zg (Z01 (Z02 ?_)))))
 refine Zk [6] ?_
 refine Z0i ?_
 refine Z0e results233 rfl ?_
 refine ⟨_, rfl, ?_⟩
 obtain rfl : neg = false := by simpa using hc3
 exact ⟨b, t, rfl, hf, ht0, hbt, hbp, hbi, rfl⟩
theorem scaled64 (man : Nat) (h0 : 0 < man) (h1 : man ≤ 9007199254740992) (e : Int) (he : -22 ≤ e ∧ e ≤ 22) (neg : Bool) (w : World) :
  Z0f P 235 [.int .u64 (man : Int), .int .i64 e, .bool neg] w fun r w' => ∃ (b : Nat) (t : Int × Bool × Int), r = .float .f64 (if neg = true then b + (Kd.S .f64).toNat else b) ∧ fltT .f64 man e t ∧ t.2.2 = 0 ∧ (b : Int) = t.1 ∧ 0 ≤ t.1 ∧ t.1 < Kd.I .f64 ∧ w = w' := by
 refine Z0o func235 rfl ntmps235 rfl ?_
 obtain ⟨m, i, hrd⟩ := read_int .f64 man h0 h1
 have hje : e.natAbs ≤ jm .f64 := by simp only [jm]; omega
 refine Z03 (Z00 (Zg (Z01 (Z02 ?_))))
 refine Zk [0, 1, 2] ?_
 refine Z03 (Z00 (Zm ?_))
 refine Z6Y rfl rfl underlying24 underlying319 rfl ?_
 refine Z0j (s := 10) (v' := .float .f64 ((fk .f64).format.nearest false man 0)) rfl (congrArg (Value.float .f64) (Z6Z .f64 man)) ?_
 refine Z6Y rfl rfl underlying3 underlying319 rfl ?_
 refine Z0j (s := 11) (v' := .float .f64 (pw .f64 0)) rfl (congrArg (Value.float .f64) (pw_zero .f64)) ?_
 refine Zg (Zg (Z01 (Z02 ?_)))
 refine Zk [1, 2, 7, 8] ?_
 refine Z03 (Z03 (Z00 (Zm (Zm ?_))))
 refine Z5M rfl rfl rfl (Z0l ZO) ?_
 refine Z5T rfl rfl rfl rfl ?_
 refine Zm (Z01 (Z02 ?_))
 refine Zk [1, 2, 7, 8, 15, 16] ?_
 refine Z0d ?_
 refine Z0z (ι := Nat) (fun (j : Nat) => e.natAbs - j) (fun (j : Nat) (w' : World) => w = w' ∧ j ≤ e.natAbs) (fun (j : Nat) => [(8, .float .f64 (pw .f64 j)), (16, .int .i64 (j : Int))]) [1, 2, 7, 15] (0) ?_ (.cons rfl (.cons rfl (.cons rfl (.cons rfl .nil)))) ?_ ?_
 ·exact ⟨rfl, ZO⟩
 ·exact (.cons rfl ZN (.cons rfl ZN .nil))
 rintro j _ ⟨rfl, hj⟩
 show RunC P _ _ _ (_ :: _) _
 refine Z03 (Z00 ?_)
 refine Zl ?_
 refine Z01 (Z02 (Z03 ?_))
 (first | refine Z0c rfl ?_ ?_ | refine Z08 rfl ?_ ?_) <;> intro hc0
 ·refine Z0a (Z02 ?_)
  refine Zk [1, 2, 7, 8, 15, 16] ?_
  refine Z03 (Z0d (Z00 (Zm ?_)))
  refine l_fmul rfl rfl rfl rfl (pw_mul64 ZO) ?_
  refine Zg (Z01 ?_)
  refine Z0F ?_
  refine Z02 ?_
  refine Zk [1, 2, 7, 8, 15, 16] ?_
  refine Z00 ?_
  refine Z0y rfl rfl rfl rfl (Z0l ZO) ?_
  refine Zm (Z01 ?_)
  refine Z0p (i := (j)) (j + 1) ?_ ?_ (.cons rfl (.cons rfl (.cons rfl (.cons rfl .nil)))) ?_
  ·first | omega | (simp; omega)
  ·exact ⟨rfl, ZO⟩
  exact (.cons rfl ZN (.cons rfl ZN .nil))
 refine Z0H ?_
 refine Z06 ?_
 refine Z06 ?_
 refine Z0h ?_
 refine Z02 ?_
 refine Zk [1, 2, 7, 8] ?_
 refine Z03 (Z03 (Z00 (Zm ?_)))
 refine Zl ?_
 refine Z01 (Z02 ?_)
 refine Zk [2, 7, 8, 22] ?_
 (first | refine Z0c rfl ?_ ?_ | refine Z08 rfl ?_ ?_) <;> intro hc1
 ·refine Z00 ?_
  obtain ⟨b, t, hb, ht, ht0, hbt, hbp, hbi⟩ := short_div .f64 hrd h1 hje
  obtain rfl : e.natAbs = j := by omega
  have hf := flt_div (x := e) ZO ht
  refine Zm (Zm ?_)
  refine l_fdiv rfl rfl rfl rfl hb ?_
  refine Zg (Z01 (Z02 ?_))
  refine Zk [2, 7] ?_
  refine Z03 (Z03 (Z00 (Zm (Z01 (Z02 ?_)))))
  refine Zk [7, 29] ?_
  (first | refine Z0c rfl ?_ ?_ | refine Z08 rfl ?_ ?_) <;> intro hc2
  ·refine Z03 (Z00 (Zm ?_))
   refine l_fneg rfl rfl rfl ?_
   refine Z0j (s := 31) (v' := .float .f64 (b + (Kd.S .f64).toNat)) rfl (congrArg (Value.float .f64) (Z66 .f64 ZO)) ?_
   refine Zg (Z01 (Z02 ?_))
   refine Zk [6] ?_
   refine Z0i ?_
   refine Z07 ?_
   refine Z0e results235 rfl ?_
   refine ⟨_, rfl, ?_⟩
   subst_vars
   exact ⟨b, t, rfl, hf, ht0, hbt, hbp, hbi, rfl⟩
  refine Z0a (Z02 ?_)
  refine Zk [7] ?_
  refine Z03 (Z00 (Zm (Zg (Z01 (Z02 ?_)))))
  refine Zk [6] ?_
  refine Z0i ?_
  refine Z0e results235 rfl ?_
  refine ⟨_, rfl, ?_⟩
  obtain rfl : neg = false := by simpa using hc2
  exact ⟨b, t, rfl, hf, ht0, hbt, hbp, hbi, rfl⟩
 refine Z00 ?_
 obtain ⟨b, t, hb, ht, ht0, hbt, hbp, hbi⟩ := short_mul .f64 hrd h1 hje
 obtain rfl : e.natAbs = j := by omega
 have hf := flt_mul (x := e) ZO ht
 refine Zm (Zm ?_)
 refine l_fmul rfl rfl rfl rfl hb ?_
 refine Zg (Z01 (Z02 ?_))
 refine Zk [2, 7] ?_
 refine Z03 (Z03 (Z00 (Zm (Z01 (Z02 ?_)))))
 refine Zk [7, 29] ?_
 (first | refine Z0c rfl ?_ ?_ | refine Z08 rfl ?_ ?_) <;> intro hc3
 ·refine Z03 (Z00 (Zm ?_))
  refine l_fneg rfl rfl rfl ?_
  refine Z0j (s := 31) (v' := .float .f64 (b + (Kd.S .f64).toNat)) rfl (congrArg (Value.float .f64) (Z66 .f64 ZO)) ?_
  refine Zg (Z01 (Z02 ?_))
  refine Zk [6] ?_
  refine Z0i ?_
  refine Z07 ?_
  refine Z0e results235 rfl ?_
  refine ⟨_, rfl, ?_⟩
  subst_vars
  exact ⟨b, t, rfl, hf, ht0, hbt, hbp, hbi, rfl⟩
 refine Z0a (Z02 ?_)
 refine Zk [7] ?_
 refine Z03 (Z00 (Zm (Zg (Z01 (Z02 ?_)))))
 refine Zk [6] ?_
 refine Z0i ?_
 refine Z0e results235 rfl ?_
 refine ⟨_, rfl, ?_⟩
 obtain rfl : neg = false := by simpa using hc3
 exact ⟨b, t, rfl, hf, ht0, hbt, hbp, hbi, rfl⟩
def wdP (wd man : Int) : Prop := wd ≠ 0 ∨ man = 0
instance (a b : Int) : Decidable (wdP a b) := by unfold wdP; infer_instance
def shP (k man x : Int) (more : Bool) : Prop := ((more = false ∧ man ≤ (if k = 9 then 16777216 else 9007199254740992)) ∧ -(if k = 9 then 10 else 22) ≤ x) ∧ x ≤ (if k = 9 then 10 else 22)
instance (k man x : Int) (more : Bool) : Decidable (shP k man x more) := by unfold shP; infer_instance
theorem wordP (cp : Option Addr) (A : Option Addr) (tl tc : Nat) (k wd man x : Int) (ng more : Bool) (w : World) :
  Z0f P 138 [.agg #[.pointer cp, .int .i64 k, .slice A tl tc, .bool ng, .int .i64 wd, .int .u64 man, .int .i64 x, .bool more]] w fun r w' => r = .bool (decide (wdP wd man)) ∧ Grow w w' [] := by
 refine Z0o func138 rfl ntmps138 rfl ?_
 have H0 := St.start w
 refine Z03 (Z00 ?_)
 refine Z57 H0 rfl rfl rfl (fun b0_0 w1 H1 => ?_)
 refine Zg (Z01 (Z02 ?_))
 refine Zk [1] ?_
 refine Z03 (Z00 (Z09 Z53 rfl rfl rfl (Z09 fo174_1 rfl rfl rfl ?_)))
 refine Z05 H1 mem0 rfl rfl underlying3 rfl rfl rfl ?_
 refine Zo ?_
 refine Zm ?_
 apply l_or 4 [] rfl rfl (.cons rfl .nil) rfl rfl (fun _ => rfl) rfl rfl rfl
 ·intro hg1_5
  refine Z09 Z53 rfl rfl rfl (Z09 Z5Z rfl rfl rfl ?_)
  refine Z05 H1 mem0 rfl rfl underlying24 rfl rfl rfl ?_
  refine Ze ?_
  refine Z01 ?_
  exact Z0O rfl (.cons rfl (ZF hg1_5) .nil)
 refine Zg (Z01 (Z02 ?_))
 refine Zk [2] ?_
 refine Z0i ?_
 refine Z0e results138 rfl ?_
 refine ⟨_, rfl, ?_⟩
 have H2 := St.del .head H1
 exact ⟨rfl, H2.grows⟩
theorem tabledP (cp : Option Addr) (A : Option Addr) (tl tc : Nat) (k wd man x : Int) (ng more : Bool) (w : World) :
  Z0f P 140 [.agg #[.pointer cp, .int .i64 k, .slice A tl tc, .bool ng, .int .i64 wd, .int .u64 man, .int .i64 x, .bool more]] w fun r w' => r = .bool (decide (inQ x)) ∧ Grow w w' [] := by
 refine Z0o func140 rfl ntmps140 rfl ?_
 have H0 := St.start w
 refine Z03 (Z00 ?_)
 refine Z57 H0 rfl rfl rfl (fun b0_0 w1 H1 => ?_)
 refine Zg (Z01 (Z02 ?_))
 refine Zk [1] ?_
 refine Z03 (Z00 (Z09 Z53 rfl rfl rfl (Z09 Z5i rfl rfl rfl ?_)))
 refine Z05 H1 mem0 rfl rfl underlying3 rfl rfl rfl ?_
 refine Zh ?_
 refine Zm ?_
 apply Z47 4 [] rfl rfl (.cons rfl .nil) rfl rfl (fun _ => rfl) rfl rfl rfl
 ·intro hg1_5
  refine Z09 Z53 rfl rfl rfl (Z09 Z5i rfl rfl rfl ?_)
  refine Z05 H1 mem0 rfl rfl underlying3 rfl rfl rfl ?_
  refine Zf ?_
  refine Z01 ?_
  exact Z0O rfl (.cons rfl (ZT hg1_5) .nil)
 refine Zg (Z01 (Z02 ?_))
 refine Zk [2] ?_
 refine Z0i ?_
 refine Z0e results140 rfl ?_
 refine ⟨_, rfl, ?_⟩
 have H2 := St.del .head H1
 exact ⟨rfl, H2.grows⟩
theorem shortP (cp : Option Addr) (A : Option Addr) (tl tc : Nat) (k wd man x : Int) (ng more : Bool) (w : World) :
  Z0f P 139 [.agg #[.pointer cp, .int .i64 k, .slice A tl tc, .bool ng, .int .i64 wd, .int .u64 man, .int .i64 x, .bool more]] w fun r w' => r = .bool (decide (shP k man x more)) ∧ Grow w w' [] := by
 refine Z0o func139 rfl ntmps139 rfl ?_
 have H0 := St.start w
 refine Z03 (Z00 ?_)
 refine Z57 H0 rfl rfl rfl (fun b0_0 w1 H1 => ?_)
 refine Zg (Z01 (Z02 ?_))
 refine Zk [1] ?_
 refine Z03 (Z00 (Zg ?_))
 refine Zg (Z01 (Z02 ?_))
 refine Z1q (ι := Int × Int) (fun (z0 : Int × Int) (w' : World) => match z0 with | ⟨mo, fa⟩ => St w w.heap.size Z0J ([As.blk b0_0 199 [.pointer cp, .int .i64 k, .slice A tl tc, .bool ng, .int .i64 wd, .int .u64 man, .int .i64 x, .bool more]]) w' ∧ mo = (if k = 9 then 16777216 else 9007199254740992) ∧ fa = (if k = 9 then 10 else 22) ∧ 0 ≤ fa ∧ fa ≤ 22) (fun (z0 : Int × Int) => match z0 with | ⟨mo, fa⟩ => [(3, .int .u64 mo), (4, .int .i64 fa)]) [1] (.cons rfl .nil) ?_ ?_
 ·refine Z03 (Z00 (Z09 Z60 rfl rfl rfl ?_))
  refine Z05 H1 mem0 rfl rfl underlying3 rfl rfl rfl ?_
  refine Ze ?_
  refine Z01 (Z02 ?_)
  refine Zk [1, 3, 4, 7] ?_
  (first | refine Z0c rfl ?_ ?_ | refine Z08 rfl ?_ ?_) <;> intro hc0
  ·refine Z00 (Zg ?_)
   refine Zg (Z01 ?_)
   refine Z0w (16777216, 10) ?_ (.cons rfl .nil) ?_
   ·exact ⟨H1, by rw [if_pos ZA], by rw [if_pos ZA], ZO, ZO⟩
   exact (.cons rfl ZN (.cons rfl ZN .nil))
  refine Z0a ?_
  refine Z0w (9007199254740992, 22) ?_ (.cons rfl .nil) ?_
  ·exact ⟨H1, by rw [if_neg ZA], by rw [if_neg ZA], ZO, ZO⟩
  exact (.cons rfl ZN (.cons rfl ZN .nil))
 rintro ⟨mo, fa⟩ w2 ⟨H2, hmo, hfa, hf0, hf2⟩
 show RunC P _ _ _ (_ :: _) _
 refine Z03 (Z00 (Z09 Z53 rfl rfl rfl (Z09 Z73 rfl rfl rfl ?_)))
 refine Z05 H2 mem0 rfl rfl underlying4 rfl rfl rfl ?_
 first | refine Z38 rfl rfl rfl ?_ | refine Z3v rfl rfl rfl ?_
 refine Zm ?_
 refine Z0j (s := 12) (v' := .bool (decide (more = false))) rfl (by cases more <;> rfl) ?_
 apply Z47 5 [1, 4] rfl rfl (.cons rfl (.cons rfl (.cons rfl .nil))) rfl rfl (fun _ => rfl) rfl rfl rfl
 ·intro hg4_5
  refine Z09 Z53 rfl rfl rfl (Z09 Z5Z rfl rfl rfl ?_)
  refine Z05 H2 mem0 rfl rfl underlying24 rfl rfl rfl ?_
  refine Zm ?_
  refine Zf ?_
  refine Z01 ?_
  exact Z0O rfl (.cons rfl (ZT hg4_5) (.cons rfl rfl (.cons rfl rfl .nil)))
 refine Zm ?_
 apply Z47 6 [1, 4] rfl rfl (.cons rfl (.cons rfl (.cons rfl .nil))) rfl rfl (fun _ => rfl) rfl rfl rfl
 ·intro hg4_12
  refine Z09 Z53 rfl rfl rfl (Z09 Z5i rfl rfl rfl ?_)
  refine Z05 H2 mem0 rfl rfl underlying3 rfl rfl rfl ?_
  refine Zm ?_
  refine Z5M rfl rfl rfl (Z0l ZO) ?_
  refine Zh ?_
  refine Z01 ?_
  exact Z0O rfl (.cons rfl (ZT hg4_12) (.cons rfl rfl (.cons rfl rfl .nil)))
 refine Zm ?_
 apply Z47 5 [] rfl rfl (.cons rfl .nil) rfl rfl (fun _ => rfl) rfl rfl rfl
 ·intro hg4_20
  refine Z09 Z53 rfl rfl rfl (Z09 Z5i rfl rfl rfl ?_)
  refine Z05 H2 mem0 rfl rfl underlying3 rfl rfl rfl ?_
  refine Zm ?_
  refine Zf ?_
  refine Z01 ?_
  exact Z0O rfl (.cons rfl (ZT hg4_20) .nil)
 refine Zg (Z01 (Z02 ?_))
 refine Zk [2] ?_
 refine Z0i ?_
 refine Z0e results139 rfl ?_
 refine ⟨_, rfl, ?_⟩
 have H3 := St.del .head H2
 refine ⟨?_, H3.grows⟩
 refine congrArg Value.bool (decide_eq_decide.2 ?_)
 unfold shP
 rw [← hmo, ← hfa]
 constructor
 ·rintro ⟨⟨h1, h2⟩, h3⟩
  exact ⟨⟨h1, ZO⟩, h3⟩
 rintro ⟨⟨h1, h2⟩, h3⟩
 exact ⟨⟨h1, ZO⟩, h3⟩
theorem shortGoesP (cp : Option Addr) (A : Option Addr) (tl tc : Nat) (k wd x : Int) (mn : Nat) (ng more : Bool) (d : Kd) (hk : kd k = some d) (h0 : 0 < mn) (hsh : shP k mn x more) (w : World) :
  Z0f P 197 [.agg #[.pointer cp, .int .i64 k, .slice A tl tc, .bool ng, .int .i64 wd, .int .u64 (mn : Int), .int .i64 x, .bool more]] w fun r w' => ∃ t : Int × Bool × Int, r = .tuple #[.int .u64 (if ng = true then t.1 + d.S else t.1), .bool true, .int .i64 0] ∧ fltT d mn x t ∧ t.2.2 = 0 ∧ 0 ≤ t.1 ∧ t.1 < d.I ∧ Grow w w' [] := by
 refine Z0o func197 rfl ntmps197 rfl ?_
 have H0 := St.start w
 unfold shP at hsh
 refine Z03 (Z00 ?_)
 refine Z57 H0 rfl rfl rfl (fun b0_0 w1 H1 => ?_)
 refine Zg (Zg (Zg (Z01 (Z02 ?_))))
 refine Zk [1] ?_
 refine Z03 (Z03 (Z00 (Z09 Z60 rfl rfl rfl ?_)))
 refine Z05 H1 mem0 rfl rfl underlying3 rfl rfl rfl ?_
 refine Ze ?_
 refine Z01 (Z02 ?_)
 refine Zk [1, 7] ?_
 (first | refine Z0c rfl ?_ ?_ | refine Z08 rfl ?_ ?_) <;> intro hc0
 ·obtain rfl : d = .f32 := by rcases kd_some hk with ⟨_, h⟩ | ⟨h, _⟩; exact h; omega
  rw [if_pos ZA, if_pos ZA] at hsh
  refine Z03 (Z00 (Z09 Z53 rfl rfl rfl (Z09 Z5Z rfl rfl rfl ?_)))
  refine Z05 H1 mem0 rfl rfl underlying24 rfl rfl rfl ?_
  refine Z09 Z53 rfl rfl rfl (Z09 Z5i rfl rfl rfl ?_)
  refine Z05 H1 mem0 rfl rfl underlying3 rfl rfl rfl ?_
  refine Z09 Z53 rfl rfl rfl (Z09 Z5Y rfl rfl rfl ?_)
  refine Z05 H1 mem0 rfl rfl underlying4 rfl rfl rfl ?_
  refine Zc func233 (scaled32 mn h0 ZO x ZO ng _) ?_
  rintro _ _ ⟨b, t, rfl, hf, ht0, hbt, hbp, hbi, rfl⟩
  have hS32 : (Kd.S .f32).toNat = 2147483648 := rfl
  have hI32 : Kd.I .f32 = 2139095040 := rfl
  have hb32 : b < 2139095040 := by omega
  refine Z25 rfl rfl func232 rfl rfl rfl rfl (.cons rfl .nil) (run_f32bits _ _) ?_
  refine Z5a rfl rfl underlying86 underlying24 rfl (Z1p (by rw [hS32]; split <;> omega)) ?_
  refine Zg (Zg (Zg (Z01 (Z02 ?_))))
  refine Zk [2, 3, 4] ?_
  refine Z0i ?_
  refine Z07 ?_
  refine Z12 results197 (.tmp rfl (.tmp rfl (.tmp rfl .nil))) rfl ?_
  refine ⟨_, rfl, ?_⟩
  have H2 := St.del .head H1
  refine ⟨t, ?_, hf, ht0, hbp, hbi, H2.grows⟩
  rw [← hbt]
  cases ng <;> rfl
 obtain rfl : d = .f64 := by rcases kd_some hk with ⟨h, _⟩ | ⟨_, h⟩; exact absurd h ZA; exact h
 rw [if_neg ZA, if_neg ZA] at hsh
 refine Z0a (Z02 ?_)
 refine Zk [1] ?_
 refine Z03 (Z00 (Z09 Z53 rfl rfl rfl (Z09 Z5Z rfl rfl rfl ?_)))
 refine Z05 H1 mem0 rfl rfl underlying24 rfl rfl rfl ?_
 refine Z09 Z53 rfl rfl rfl (Z09 Z5i rfl rfl rfl ?_)
 refine Z05 H1 mem0 rfl rfl underlying3 rfl rfl rfl ?_
 refine Z09 Z53 rfl rfl rfl (Z09 Z5Y rfl rfl rfl ?_)
 refine Z05 H1 mem0 rfl rfl underlying4 rfl rfl rfl ?_
 refine Zc func235 (scaled64 mn h0 ZO x ZO ng _) ?_
 rintro _ _ ⟨b, t, rfl, hf, ht0, hbt, hbp, hbi, rfl⟩
 have hS64 : (Kd.S .f64).toNat = 9223372036854775808 := rfl
 have hI64 : Kd.I .f64 = 9218868437227405312 := rfl
 refine Z25 rfl rfl func234 rfl rfl rfl rfl (.cons rfl .nil) (run_f64bits _ _) ?_
 refine Zg (Zg (Zg (Z01 (Z02 ?_))))
 refine Zk [2, 3, 4] ?_
 refine Z0i ?_
 refine Z12 results197 (.tmp rfl (.tmp rfl (.tmp rfl .nil))) rfl ?_
 refine ⟨_, rfl, ?_⟩
 have H3 := St.del .head H1
 refine ⟨t, ?_, hf, ht0, hbp, hbi, H3.grows⟩
 rw [← hbt]
 cases ng <;> rfl
def spF (d : Kd) (ng : Bool) (wd : Int) : Int := if wd = 1 then (if ng = true then d.I + d.S else d.I) else if wd = 2 then nanS d else (if ng = true then d.S else 0)
theorem nanB' (k : Int) (d : Kd) (hk : kd k = some d) (w : World) : Z0f P 48 [.int .i64 k] w fun r w' => r = .tuple #[.int .u64 (nanS d), .int .i64 0] ∧ Grow w w' [] := by
 refine (nanB k w).mono ?_
 rintro r w' ⟨h, hG⟩
 rw [hk] at h
 exact ⟨h, hG⟩
theorem infsB' (k : Int) (d : Kd) (hk : kd k = some d) (neg : Bool) (w : World) : Z0f P 203 [.int .i64 k, .bool neg] w fun r w' => r = .tuple #[.int .u64 (if neg then d.I + d.S else d.I), .int .i64 0] ∧ Grow w w' [] := by
 refine (infsB k neg w).mono ?_
 rintro r w' ⟨h, hG⟩
 rw [hk] at h
 exact ⟨h, hG⟩
theorem joinZ (k : Int) (d : Kd) (hk : kd k = some d) (neg : Bool) (w : World) : Z0f P 231 [.int .i64 k, .agg #[.bool neg, .int .u64 0, .int .i64 0]] w fun r w' => r = .tuple #[.int .u64 (if neg = true then d.S else 0), .bool true, .int .i64 0] ∧ Grow w w' [] := by
 refine (joinB k neg 0 0 ZO ZO w).mono ?_
 rintro r w' ⟨res, rfl, hJ, hG⟩
 unfold Z5V at hJ
 rw [hk] at hJ
 obtain ⟨t, ht, rfl⟩ := hJ
 have hI := d.I_lt
 have hz := RndR.zero (H := d.H) (G := d.I - 1) (D := 2 ^ (-(max (min (0 : Int) 2000) (-2000))).toNat) d.I_lt.2.2 d.I_lt.1 d.I_lt.2.1 (p2 _)
 rw [Int.zero_mul, Int.zero_mul] at ht
 have hb := d.bd
 have e := RndR.unique ZO (p2 _) ht hz
 subst e
 rw [Z6L rfl]
 refine ⟨?_, hG⟩
 cases neg <;> simp
theorem wordGoesP (cp : Option Addr) (A : Option Addr) (tl tc : Nat) (k wd man x : Int) (ng more : Bool) (d : Kd) (hk : kd k = some d) (w : World) :
  Z0f P 196 [.agg #[.pointer cp, .int .i64 k, .slice A tl tc, .bool ng, .int .i64 wd, .int .u64 man, .int .i64 x, .bool more]] w fun r w' => r = .tuple #[.int .u64 (spF d ng wd), .bool true, .int .i64 0] ∧ Grow w w' [] := by
 refine Z0o func196 rfl ntmps196 rfl ?_
 have H0 := St.start w
 refine Z03 (Z00 ?_)
 refine Z57 H0 rfl rfl rfl (fun b0_0 w1 H1 => ?_)
 refine Zg (Zg (Zg (Z01 (Z02 ?_))))
 refine Zk [1] ?_
 refine Z03 (Z03 (Z00 (Z09 Z53 rfl rfl rfl (Z09 fo174_1 rfl rfl rfl ?_))))
 refine Z05 H1 mem0 rfl rfl underlying3 rfl rfl rfl ?_
 refine Z01 (Z02 ?_)
 refine Zk [1, 7] ?_
 refine Z0d (Z03 (Z00 ?_))
 refine Ze ?_
 refine Zg (Z01 (Z02 ?_))
 refine Zk [1, 7, 19] ?_
 (first | refine Z0c rfl ?_ ?_ | refine Z08 rfl ?_ ?_) <;> intro hc0
 ·refine Z00 (Z09 Z60 rfl rfl rfl ?_)
  refine Z05 H1 mem0 rfl rfl underlying3 rfl rfl rfl ?_
  refine Z09 Z53 rfl rfl rfl (Z09 Z5Y rfl rfl rfl ?_)
  refine Z05 H1 mem0 rfl rfl underlying4 rfl rfl rfl ?_
  refine Zc func203 (infsB' k d hk ng w1) ?_
  rintro _ w2 ⟨rfl, hG⟩
  have H2 := hG _ _ _ _ H1
  simp only [Zca, Zna] at H2
  refine Zm ?_
  refine Zx (Zx (Zg (Zg (Z01 ?_))))
  refine Z0F ?_
  refine Z02 ?_
  refine Zk [2, 4] ?_
  refine Z03 (Z00 (Zm (Zm (Zg (Zg (Zg (Z01 (Z02 ?_))))))))
  refine Zk [2, 3, 4] ?_
  refine Z0i ?_
  refine Z12 results196 (.tmp rfl (.tmp rfl (.tmp rfl .nil))) rfl ?_
  refine ⟨_, rfl, ?_⟩
  have H3 := St.del .head H2
  refine ⟨?_, H3.grows⟩
  unfold spF
  rw [if_pos hc0]
  rfl
 refine Z03 (Z00 ?_)
 refine Ze ?_
 refine Zg (Z01 (Z02 ?_))
 refine Zk [1, 30] ?_
 (first | refine Z0c rfl ?_ ?_ | refine Z08 rfl ?_ ?_) <;> intro hc1
 ·refine Z00 (Z09 Z60 rfl rfl rfl ?_)
  refine Z05 H1 mem0 rfl rfl underlying3 rfl rfl rfl ?_
  refine Zc func48 (nanB' k d hk w1) ?_
  rintro _ w4 ⟨rfl, hG⟩
  have H4 := hG _ _ _ _ H1
  simp only [Zca, Zna] at H4
  refine Zm ?_
  refine Zx (Zx (Zg (Zg (Z01 ?_))))
  refine Z0F ?_
  refine Z02 ?_
  refine Zk [2, 4] ?_
  refine Z03 (Z00 (Zm (Zm (Zg (Zg (Zg (Z01 (Z02 ?_))))))))
  refine Zk [2, 3, 4] ?_
  refine Z0i ?_
  refine Z12 results196 (.tmp rfl (.tmp rfl (.tmp rfl .nil))) rfl ?_
  refine ⟨_, rfl, ?_⟩
  have H5 := St.del .head H4
  refine ⟨?_, H5.grows⟩
  unfold spF
  rw [if_neg hc0, if_pos hc1]
  rfl
 refine Z00 (Z09 Z60 rfl rfl rfl ?_)
 refine Z05 H1 mem0 rfl rfl underlying3 rfl rfl rfl ?_
 refine Z09 Z53 rfl rfl rfl (Z09 Z5Y rfl rfl rfl ?_)
 refine Z05 H1 mem0 rfl rfl underlying4 rfl rfl rfl ?_
 refine Z16 rfl rfl pl225 ta225 (.one rfl rfl ZR .zero .nil) ?_
 refine Zc func231 (joinZ k d hk ng w1) ?_
 rintro _ w6 ⟨rfl, hG⟩
 have H6 := hG _ _ _ _ H1
 simp only [Zca, Zna] at H6
 refine Zm ?_
 refine Zx (Zx (Zx (Zg (Zg (Z01 ?_)))))
 refine Z0F ?_
 refine Z02 ?_
 refine Zk [2, 4] ?_
 refine Z03 (Z00 (Zm (Zm (Zg (Zg (Zg (Z01 (Z02 ?_))))))))
 refine Zk [2, 3, 4] ?_
 refine Z0i ?_
 refine Z12 results196 (.tmp rfl (.tmp rfl (.tmp rfl .nil))) rfl ?_
 refine ⟨_, rfl, ?_⟩
 have H7 := St.del .head H6
 refine ⟨?_, H7.grows⟩
 unfold spF
 rw [if_neg hc0, if_neg hc1]
 rfl
theorem take_hd (l : L8) {k : Nat} (h : 0 < k) : (l.take k).getD 0 0 = l.getD 0 0 := by
 match l, k with
 | [], _ => rw [List.take_nil]
 | c :: l, k + 1 => rfl
theorem dig_eq {c : UInt8} {d : Int} (h : isD c) (e : d = (c.toNat : Int) - 48) : dig d = c := by
 unfold isD at h
 have := Z6D (r := d) ZO
 have h2 : ((dig d).toNat : Int) = (c.toNat : Int) := by omega
 exact Z5U.1 h2
theorem dt0_pv : ∀ (n : Nat) (l : L8), l.length = n + 1 → (∀ x ∈ l, isD x) → ¬ l.getD 0 0 = 48 → 0 < pv l ∧ dt0 (pv l).toNat = l
 | 0, l, h, hd, hz => by
  match l, h with
  | [c], _ =>
   have hc := hd c (.head _)
   have hc' := hc
   unfold isD at hc'
   have hz' : ¬ (c.toNat : Int) = 48 := fun e => hz ((Z5U (d := 48)).1 e)
   have hp : pv [c] = (c.toNat : Int) - 48 := by simp [pv]
   have hpos : 0 < pv [c] := by omega
   refine ⟨hpos, ?_⟩
   rw [Z5N hpos, show pv [c] / 10 = 0 from by omega, show (0 : Int).toNat = 0 from rfl, Z6a, dig_eq hc ZO]
   rfl
 | n + 1, l, h, hd, hz => by
  have hne : l ≠ [] := by intro e; subst e; simp at h
  have e := List.dropLast_concat_getLast hne
  have hd' : ∀ x ∈ l.dropLast, isD x := fun x hx => hd x ((List.dropLast_sublist l).subset hx)
  have hz' : ¬ l.dropLast.getD 0 0 = 48 := by
   have : l.dropLast.getD 0 0 = l.getD 0 0 := by
    rw [List.dropLast_eq_take]
    exact take_hd l ZO
   rw [this]; exact hz
  have ih := dt0_pv n l.dropLast (by simp [h]) hd' hz'
  have hl := hd _ (List.getLast_mem hne)
  have hl' := hl
  unfold isD at hl'
  have hp : pv l = 10 * pv l.dropLast + (((l.getLast hne).toNat : Int) - 48) := by
   have := Z6x l.dropLast (l.getLast hne)
   rw [e] at this
   exact this
  have hpos : 0 < pv l := by omega
  refine ⟨hpos, ?_⟩
  rw [Z5N hpos, show pv l / 10 = pv l.dropLast from by omega, ih.2, dig_eq hl ZO]
  exact e
theorem dtx_pv {l : L8} (hd : ∀ x ∈ l, isD x) (h0 : l ≠ []) (hz : ¬ l.getD 0 0 = 48) : dtx (pv l) = l := by
 have h := dt0_pv (l.length - 1) l (by have := List.length_pos_iff.2 h0; omega) hd hz
 unfold dtx
 rw [if_neg ZO, h.2]
theorem skip0_head (l : L8) (h : Z5e l ≠ []) : ¬ (Z5e l).getD 0 0 = 48 := by
 induction l with
 | nil => exact absurd rfl h
 | cons c l ih =>
  simp only [Z5e] at h ⊢
  split
  ·rename_i hc
   rw [if_pos hc] at h
   exact ih h
  rename_i hc
  exact hc
/-! ### the table's ends, and what a text's number is rounded to -/
def tbLo (x : Int) : Int := if x < 0 then (entS x).1 - 1 else (entS x).1
def tbHi (x : Int) : Int := if x < 0 then (entS x).1 else if x ≤ 55 then (entS x).1 else (entS x).1 + 1
def tbE (x : Int) : Int := (entS x).2.1 + x
theorem tb_all : ∀ n : Nat, n < 651 → (0 < tbLo ((n : Int) - 342) ∧ tbHi ((n : Int) - 342) ≤ 340282366920938463463374607431768211456 ∧ (entS ((n : Int) - 342)).1 < 340282366920938463463374607431768211456 ∧ 0 < (entS ((n : Int) - 342)).1 ∧ -1300 ≤ tbE ((n : Int) - 342) ∧ tbE ((n : Int) - 342) ≤ 1000 ∧ -1300 ≤ (entS ((n : Int) - 342)).2.1 ∧ (entS ((n : Int) - 342)).2.1 ≤ 1000 ∧ (entS ((n : Int) - 342)).2.2 = 0 ∧
  tbLo ((n : Int) - 342) * 2 ^ (tbE ((n : Int) - 342)).toNat * 10 ^ (-((n : Int) - 342)).toNat ≤ 10 ^ ((n : Int) - 342).toNat * 2 ^ (-(tbE ((n : Int) - 342))).toNat ∧
  10 ^ ((n : Int) - 342).toNat * 2 ^ (-(tbE ((n : Int) - 342))).toNat ≤ tbHi ((n : Int) - 342) * 2 ^ (tbE ((n : Int) - 342)).toNat * 10 ^ (-((n : Int) - 342)).toNat) := by decide +kernel
structure TbF (x : Int) : Prop where
 lo : 0 < tbLo x
 hi : tbHi x ≤ 340282366920938463463374607431768211456
 m : (entS x).1 < 340282366920938463463374607431768211456
 m0 : 0 < (entS x).1
 e1 : -1300 ≤ tbE x
 e2 : tbE x ≤ 1000
 f1 : -1300 ≤ (entS x).2.1
 f2 : (entS x).2.1 ≤ 1000
 er : (entS x).2.2 = 0
 low : tbLo x * 2 ^ (tbE x).toNat * 10 ^ (-x).toNat ≤ 10 ^ x.toNat * 2 ^ (-(tbE x)).toNat
 high : 10 ^ x.toNat * 2 ^ (-(tbE x)).toNat ≤ tbHi x * 2 ^ (tbE x).toNat * 10 ^ (-x).toNat
theorem tb_f {x : Int} (h : inQ x) : TbF x := by
 unfold inQ at h
 have k := tb_all (x + 342).toNat ZO
 rw [show (((x + 342).toNat : Nat) : Int) - 342 = x from by omega] at k
 obtain ⟨a, b, c, d, e, f, g, h', i, j, l⟩ := k
 exact ⟨a, b, c, d, e, f, g, h', i, j, l⟩
def tabT (d : Kd) (A x : Int) (t : Int × Bool × Int) : Prop := RndR d.H (d.I - 1) (A * 2 ^ (tbE x).toNat * 2 ^ d.l) (2 ^ (-(tbE x)).toNat) t
def mrF (man : Int) (more : Bool) : Int := if more = true then man + 1 else man
def tabF (d : Kd) (ng : Bool) (t1 t2 : Int × Bool × Int) : Int × Bool × Int :=
 if t1.2.2 = 34 ∧ t2.2.2 = 34 then (0, false, 90) else if t1.2.2 ≠ t2.2.2 ∨ t1.1 ≠ t2.1 then (0, false, 0) else (if ng = true then t1.1 + d.S else t1.1, true, 0)
theorem RndR.bits {d : Kd} {N D : Int} {t : Int × Bool × Int} (h : RndR d.H (d.I - 1) N D t) : (t.2.2 = 0 ∧ 0 ≤ t.1 ∧ t.1 < d.I) ∨ (t.1 = 0 ∧ t.2.2 = 34) := by
 have hI := d.I_lt
 rcases h with ⟨_, rfl⟩ | ⟨h1, b0, h2, h3, h4, h5, rfl⟩
 ·exact .inr ⟨rfl, rfl⟩
 left
 refine ⟨rfl, ?_⟩
 dsimp only
 split
 ·rename_i hu
  refine ⟨ZO, ?_⟩
  rcases Int.lt_or_eq_of_le h3 with h | h
  ·omega
  subst h
  exfalso
  rcases hu with h | ⟨h, _⟩ <;> omega
 omega
theorem flt_between {d : Kd} {N1 D1 N D N2 D2 : Int} {t1 t t2 : Int × Bool × Int} (h1 : 0 < D1) (h : 0 < D) (h2 : 0 < D2) (e1 : N1 * D ≤ N * D1) (e2 : N * D2 ≤ N2 * D) (k1 : RndR d.H (d.I - 1) N1 D1 t1) (k : RndR d.H (d.I - 1) N D t) (k2 : RndR d.H (d.I - 1) N2 D2 t2) (e : t1.2.2 = t2.2.2 ∧ t1.1 = t2.1) : t.1 = t1.1 ∧ t.2.2 = t1.2.2 := by
 have hI := d.I_lt
 have m1 := RndR.mono ZO h1 h ZO hI.2.1 e1 k1 k
 have m2 := RndR.mono ZO h h2 ZO hI.2.1 e2 k k2
 have ev : vlR (d.I - 1) t1 = vlR (d.I - 1) t2 := by unfold vlR; rw [e.1, e.2]
 have b := k.bits
 have b1 := k1.bits
 have em : vlR (d.I - 1) t = vlR (d.I - 1) t1 := by omega
 unfold vlR at em
 rcases b with ⟨x1, x2, x3⟩ | ⟨x1, x2⟩ <;> rcases b1 with ⟨y1, y2, y3⟩ | ⟨y1, y2⟩
 ·rw [if_pos x1, if_pos y1] at em; exact ⟨em, ZO⟩
 ·rw [if_pos x1, if_neg ZO] at em; omega
 ·rw [if_neg ZO, if_pos y1] at em; omega
 omega
theorem tab_between {d : Kd} {man x n xx : Int} {more : Bool} {q : Nat} {t1 t2 t : Int × Bool × Int} (hx : inQ x) (hman : 0 ≤ man) (ex : x = xx + q) (hn0 : 0 ≤ n) (h1 : man * 10 ^ q ≤ n) (h2 : n ≤ mrF man more * 10 ^ q)
  (k1 : tabT d (tbLo x * man) x t1) (k2 : tabT d (tbHi x * mrF man more) x t2) (k : fltT d n xx t) (e : t1.2.2 = t2.2.2 ∧ t1.1 = t2.1) : t.1 = t1.1 ∧ t.2.2 = t1.2.2 := by
 have hf := tb_f hx
 have p10 : ∀ j : Nat, (0 : Int) < 10 ^ j := fun j => Ma.pow_pos ZO j
 have hp2 : ∀ j : Nat, (0 : Int) < 2 ^ j := fun j => Ma.pow_pos ZO j
 have hm0 : 0 ≤ mrF man more := by unfold mrF; split <;> omega
 have hex : (10 : Int) ^ x.toNat * 10 ^ (-xx).toNat = 10 ^ xx.toNat * 10 ^ (-x).toNat * 10 ^ q := by
  rw [← Int.pow_add, ← Int.pow_add, ← Int.pow_add]
  congr 1
  omega
 have hlo := hf.low
 have hhi := hf.high
 have hl0 := hf.lo
 unfold tabT at k1 k2
 unfold fltT at k
 refine flt_between (hp2 _) (p10 _) (hp2 _) ?_ ?_ k1 k k2 e
 ·refine Int.le_of_mul_le_mul_right ?_ (p10 (-x).toNat)
  have q1 := p10 (-xx).toNat
  have q2 := p10 xx.toNat
  have q3 := hp2 (-(tbE x)).toNat
  have q4 := hp2 d.l
  have q5 := p10 (-x).toNat
  generalize (10 : Int) ^ x.toNat = b at *
  generalize (10 : Int) ^ (-xx).toNat = c at *
  generalize (10 : Int) ^ xx.toNat = e' at *
  generalize (10 : Int) ^ (-x).toNat = a at *
  generalize (10 : Int) ^ q = qq at *
  generalize (2 : Int) ^ (tbE x).toNat = p at *
  generalize (2 : Int) ^ (-(tbE x)).toNat = r at *
  generalize (2 : Int) ^ d.l = l at *
  have s1 := Int.mul_le_mul_of_nonneg_right hlo (Int.mul_nonneg (Int.mul_nonneg hman (Int.le_of_lt q1)) (Int.le_of_lt q4))
  have s2 := Int.mul_le_mul_of_nonneg_right h1 (Int.mul_nonneg (Int.mul_nonneg (Int.mul_nonneg (Int.le_of_lt q2) (Int.le_of_lt q5)) (Int.le_of_lt q3)) (Int.le_of_lt q4))
  have z1 : tbLo x * man * p * l * c * a = tbLo x * p * a * (man * c * l) := by simp only [Int.mul_assoc, Int.mul_left_comm, Int.mul_comm]
  have z2 : b * r * (man * c * l) = man * qq * (e' * a * r * l) := by
   have : b * r * (man * c * l) = (b * c) * (man * r * l) := by simp only [Int.mul_assoc, Int.mul_left_comm, Int.mul_comm]
   rw [this, hex]
   simp only [Int.mul_assoc, Int.mul_left_comm, Int.mul_comm]
  have z3 : n * e' * l * r * a = n * (e' * a * r * l) := by simp only [Int.mul_assoc, Int.mul_left_comm, Int.mul_comm]
  rw [z1, z3]
  rw [z2] at s1
  exact Int.le_trans s1 s2
 refine Int.le_of_mul_le_mul_right ?_ (p10 (-x).toNat)
 have q1 := p10 (-xx).toNat
 have q2 := p10 xx.toNat
 have q3 := hp2 (-(tbE x)).toNat
 have q4 := hp2 d.l
 have q5 := p10 (-x).toNat
 generalize (10 : Int) ^ x.toNat = b at *
 generalize (10 : Int) ^ (-xx).toNat = c at *
 generalize (10 : Int) ^ xx.toNat = e' at *
 generalize (10 : Int) ^ (-x).toNat = a at *
 generalize (10 : Int) ^ q = qq at *
 generalize (2 : Int) ^ (tbE x).toNat = p at *
 generalize (2 : Int) ^ (-(tbE x)).toNat = r at *
 generalize (2 : Int) ^ d.l = l at *
 generalize mrF man more = mr at *
 have s1 := Int.mul_le_mul_of_nonneg_right hhi (Int.mul_nonneg (Int.mul_nonneg hm0 (Int.le_of_lt q1)) (Int.le_of_lt q4))
 have s2 := Int.mul_le_mul_of_nonneg_right h2 (Int.mul_nonneg (Int.mul_nonneg (Int.mul_nonneg (Int.le_of_lt q2) (Int.le_of_lt q5)) (Int.le_of_lt q3)) (Int.le_of_lt q4))
 have z1 : tbHi x * mr * p * l * c * a = tbHi x * p * a * (mr * c * l) := by simp only [Int.mul_assoc, Int.mul_left_comm, Int.mul_comm]
 have z2 : b * r * (mr * c * l) = mr * qq * (e' * a * r * l) := by
  have : b * r * (mr * c * l) = (b * c) * (mr * r * l) := by simp only [Int.mul_assoc, Int.mul_left_comm, Int.mul_comm]
  rw [this, hex]
  simp only [Int.mul_assoc, Int.mul_left_comm, Int.mul_comm]
 have z3 : n * e' * l * r * a = n * (e' * a * r * l) := by simp only [Int.mul_assoc, Int.mul_left_comm, Int.mul_comm]
 rw [z1, z3]
 rw [z2] at s1
 exact Int.le_trans s2 s1
theorem big_ten (d : Kd) : fv d.H d.I ≤ 10 ^ 400 * 2 ^ d.l := by cases d <;> decide +kernel
theorem small_ten (d : Kd) : (2 : Int) * 2 ^ d.l < 10 ^ 401 := by cases d <;> decide +kernel
theorem flt_huge {d : Kd} {n x : Int} {g : Nat} (hg : 10 ^ g ≤ n) (h : 400 ≤ g + x) : fltT d n x (0, false, 34) := by
 have hI := d.I_lt
 have p10 : ∀ j : Nat, (0 : Int) < 10 ^ j := fun j => Ma.pow_pos ZO j
 have hp2 : (0 : Int) < 2 ^ d.l := Ma.pow_pos ZO _
 unfold fltT
 refine RndR.ofhuge ZO (p10 _) ZO ?_
 rw [show d.I - 1 + 1 = d.I from by omega]
 have b := big_ten d
 have e : (10 : Int) ^ 400 * 10 ^ (-x).toNat ≤ 10 ^ g * 10 ^ x.toNat := by
  rw [← Int.pow_add, ← Int.pow_add]
  exact Ma.pow_mono ZO ZO
 have s1 := Int.mul_le_mul_of_nonneg_right b (Int.le_of_lt (p10 (-x).toNat))
 have s2 := Int.mul_le_mul_of_nonneg_right e (Int.le_of_lt hp2)
 have s3 := Int.mul_le_mul_of_nonneg_right (Int.mul_le_mul_of_nonneg_right hg (Int.le_of_lt (p10 x.toNat))) (Int.le_of_lt hp2)
 rw [Int.mul_right_comm] at s1
 exact Int.le_trans s1 (Int.le_trans s2 s3)
theorem flt_tiny {d : Kd} {n x : Int} {g : Nat} (h0 : 0 < n) (hg : n < 10 ^ g) (h : g + x ≤ -401) : fltT d n x (0, false, 0) := by
 have hI := d.I_lt
 have p10 : ∀ j : Nat, (0 : Int) < 10 ^ j := fun j => Ma.pow_pos ZO j
 have hp2 : (0 : Int) < 2 ^ d.l := Ma.pow_pos ZO _
 unfold fltT
 rw [show x.toNat = 0 from by omega, Int.pow_zero, Int.mul_one]
 refine RndR.oftiny hI.2.2 ZO hI.2.1 (Int.mul_pos h0 hp2) ?_
 have s := small_ten d
 have e : (10 : Int) ^ g * 10 ^ 401 ≤ 10 ^ (-x).toNat := by
  rw [← Int.pow_add]
  exact Ma.pow_mono ZO ZO
 have s1 := Int.mul_lt_mul_of_pos_right hg hp2
 have s2 := Int.mul_lt_mul_of_pos_left s (p10 g)
 have e2 : (10 : Int) ^ g * (2 * 2 ^ d.l) = 2 * (10 ^ g * 2 ^ d.l) := by rw [Int.mul_left_comm]
 omega
structure NumX (t : L8) (man x : Int) (more : Bool) (L : L8) (q : Nat) (xx : Int) : Prop where
 ex : ExR t (pv L) xx 0
 dg : ∀ c ∈ L, isD c
 ne : 0 < L.length
 hd : ¬ L.getD 0 0 = 48
 len : L.length ≤ 1024
 e : x = xx + q
 lo : man * 10 ^ q ≤ pv L
 hi : pv L ≤ mrF man more * 10 ^ q
 no : more = false → pv L = man * 10 ^ q
 m0 : 0 < man
 m1 : man ≤ 18446744073709551615
 qb : q ≤ 4096
 x1 : -103000 ≤ xx
 x2 : xx ≤ 99999
theorem NumX.pos {t : L8} {man x : Int} {more : Bool} {L : L8} {q : Nat} {xx : Int} (h : NumX t man x more L q xx) : 0 < pv L := by
 have h1 := h.lo
 have := Int.mul_pos h.m0 (Ma.pow_pos (show (0 : Int) < 10 by omega) q)
 omega
theorem any_no : ∀ (l : L8), l.any (fun c => !decide (c = 48)) = false → ∀ j, j < l.length → l.getD j 0 = 48
 | [], _, j, h => by simp at h
 | c :: l, h, 0, _ => by
  simp only [List.any_cons, Bool.or_eq_false_iff] at h
  simpa using h.1
 | c :: l, h, j + 1, hj => by
  simp only [List.any_cons, Bool.or_eq_false_iff] at h
  exact any_no l h.2 j (by simpa using hj)
theorem CutR.len {t : L8} {ng ok : Bool} {wd x a : Int} {W F : L8} (h : CutR t ng wd W F x a ok) : W.length + F.length ≤ t.length := by
 have key : ∀ {a b : Nat} {F : L8}, Fr t a F b → ((t.take a).drop (sg t 0)).length + F.length ≤ t.length := fun hf => by
  cases hf with
  | no _ => rw [List.length_drop, List.length_take]; simp; omega
  | yes h1 _ => simp only [List.length_drop, List.length_take]; omega
 cases h with
 | inf _ => simp
 | nan _ _ => simp
 | none _ _ _ hf _ => exact key hf
 | plain _ _ _ hf _ => exact key hf
 | bad _ _ _ hf _ => exact key hf
 | exp _ _ _ hf _ _ _ _ _ _ _ => exact key hf
theorem Z5v.len {t : L8} {ng : Bool} {wd x p e : Int} {W F : L8} (h : Z5v t ng wd W F x p e) : W.length + F.length ≤ 1024 := by
 cases h with
 | long _ => simp
 | form _ _ => simp
 | ok h hc => have := hc.len; omega
theorem num_ex {t : L8} {ng more : Bool} {man x p : Int} (h : Z5o t ng 0 man x more p 0) (hm : man ≠ 0) : p = 0 ∧ ∃ L q xx, NumX t man x more L q xx := by
 cases h with
 | err _ he => exact absurd rfl he
 | nil _ _ => exact absurd rfl hm
 | @num ng x0 p W F nn hr hne hn =>
  refine ⟨rfl, ?_⟩
  obtain ⟨hdg, hWl, hFl, hx1, hx2, _, _⟩ := hr.facts
  have s3 := hr.len
  obtain ⟨s1, s2⟩ := hr.short
  have hEx := ExR.num hr hne
  have hLl := Z6t (W ++ F)
  rw [List.length_append] at hLl
  have hh := skip0_head (W ++ F) hne
  have hdL : ∀ c ∈ Z5e (W ++ F), isD c := fun c hc => hdg c (Z6c hc)
  generalize Z5e (W ++ F) = L at *
  have hL0 : 0 < L.length := List.length_pos_iff.2 hne
  have hsp := Z5A (L.take (L.length - nn)) nn (L.drop (L.length - nn)) (by rw [List.length_drop]; omega)
  rw [List.take_append_drop] at hsp
  have hdt : ∀ c ∈ L.take (L.length - nn), isD c := fun c hc => hdL c (List.mem_of_mem_take hc)
  have hdd : ∀ c ∈ L.drop (L.length - nn), isD c := fun c hc => hdL c (List.mem_of_mem_drop hc)
  have hrest := Z50 nn (L.drop (L.length - nn)) (by rw [List.length_drop]; omega) hdd
  have hm1 := Z50 (L.length - nn) (L.take (L.length - nn)) (by rw [List.length_take]; omega) hdt
  have hlead := pv_lead hdt (by rw [List.length_take]; omega) (fun e => hh ((Z5U (d := 48)).1 (by rw [← take_hd L (show 0 < L.length - nn by omega)]; exact e)))
  have hp := Ma.pow_pos (show (0 : Int) < 10 by omega) ((L.take (L.length - nn)).length - 1)
  have h19 : (10 : Int) ^ (L.length - nn) ≤ 10 ^ 19 := Ma.pow_mono ZO ZO
  rw [ten19] at h19
  refine ⟨L, nn, x0 - F.length, hEx, hdL, hL0, hh, ZO, ZO, ZO, ?_, ?_, ZO, ZO, ZO, ZO, ZO⟩
  ·unfold mrF
   split
   ·rw [Int.add_mul, Int.one_mul]; omega
   rename_i hmo
   have hz := Z6b _ (any_no _ (by simpa using hmo))
   omega
  intro hmo
  have hz := Z6b _ (any_no _ hmo)
  omega
theorem Z5o.bds {t : L8} {ng more : Bool} {wd man x p : Int} (h : Z5o t ng wd man x more p 0) : 0 ≤ man ∧ man ≤ 18446744073709551615 ∧ -110000 ≤ x ∧ x ≤ 110000 := by
 cases h with
 | err _ he => exact absurd rfl he
 | nil _ _ => omega
 | @num ng x0 p W F nn hr hne hn =>
  obtain ⟨hdg, hWl, hFl, hx1, hx2, _, _⟩ := hr.facts
  obtain ⟨s1, s2⟩ := hr.short
  have hLl := Z6t (W ++ F)
  rw [List.length_append] at hLl
  have hdL : ∀ c ∈ Z5e (W ++ F), isD c := fun c hc => hdg c (Z6c hc)
  generalize Z5e (W ++ F) = L at *
  have hdt : ∀ c ∈ L.take (L.length - nn), isD c := fun c hc => hdL c (List.mem_of_mem_take hc)
  have hm1 := Z50 (L.length - nn) (L.take (L.length - nn)) (by rw [List.length_take]; omega) hdt
  have h19 : (10 : Int) ^ (L.length - nn) ≤ 10 ^ 19 := Ma.pow_mono ZO ZO
  rw [ten19] at h19
  omega
theorem flt_short {d : Kd} {t : L8} {man x : Int} {L : L8} {q : Nat} {xx : Int} {tt : Int × Bool × Int} (h : NumX t man x false L q xx) (ht : fltT d man x tt) : fltT d (pv L) xx tt := by
 unfold fltT at ht ⊢
 refine ht.frac (Ma.pow_pos ZO _) (Ma.pow_pos ZO _) ?_
 have hex : (10 : Int) ^ x.toNat * 10 ^ (-xx).toNat = 10 ^ q * 10 ^ xx.toNat * 10 ^ (-x).toNat := by
  rw [← Int.pow_add, ← Int.pow_add, ← Int.pow_add]
  congr 1
  have := h.e
  omega
 rw [h.no rfl]
 generalize (10 : Int) ^ x.toNat = b at *
 generalize (10 : Int) ^ (-xx).toNat = c at *
 generalize (10 : Int) ^ xx.toNat = e' at *
 generalize (10 : Int) ^ (-x).toNat = a at *
 generalize (10 : Int) ^ q = qq at *
 generalize (2 : Int) ^ d.l = l at *
 have z1 : man * b * l * c = man * (b * c) * l := by simp only [Int.mul_assoc, Int.mul_left_comm, Int.mul_comm]
 rw [z1, hex]
 simp only [Int.mul_assoc, Int.mul_left_comm, Int.mul_comm]
def agP (d : Kd) (man x : Int) (more : Bool) : Prop := ∃ t1 t2, tabT d (tbLo x * man) x t1 ∧ tabT d (tbHi x * mrF man more) x t2 ∧ t1.2.2 = t2.2.2 ∧ t1.1 = t2.1
theorem tabT.unique {d : Kd} {A x : Int} {t t' : Int × Bool × Int} (h : tabT d A x t) (k : tabT d A x t') : t = t' := by
 have := d.I_lt
 exact RndR.unique (by omega) (Ma.pow_pos (by omega) _) h k
theorem fltT.unique {d : Kd} {n x : Int} {t t' : Int × Bool × Int} (h : fltT d n x t) (k : fltT d n x t') : t = t' := by
 have := d.I_lt
 exact RndR.unique (by omega) (Ma.pow_pos (by omega) _) h k
theorem agP.iff {d : Kd} {man x : Int} {more : Bool} {t1 t2 : Int × Bool × Int} (k1 : tabT d (tbLo x * man) x t1) (k2 : tabT d (tbHi x * mrF man more) x t2) : agP d man x more ↔ t1.2.2 = t2.2.2 ∧ t1.1 = t2.1 := by
 constructor
 ·rintro ⟨s1, s2, h1, h2, e⟩
  rw [k1.unique h1, k2.unique h2]
  exact e
 exact fun e => ⟨t1, t2, k1, k2, e⟩
open Classical in
/-- the road that a number goes -/
noncomputable def roadS (d : Kd) (k man x : Int) (more : Bool) : Int := if shP k man x more then 2 else if inQ x ∧ agP d man x more then 3 else 4
def sgF (d : Kd) (ng : Bool) (b : Int) : Int := if ng = true then b + d.S else b
inductive FlR (t : L8) (k : Int) : Int → Int → Int → Int → Prop
 | kind (h : kd k = none) : FlR t k 0 0 0 30
 | err {d : Kd} {ng more : Bool} {wd man x p e : Int} (h : kd k = some d) (hs : Z5o t ng wd man x more p e) (he : ¬ e = 0) : FlR t k 0 0 p e
 | word {d : Kd} {ng more : Bool} {wd man x p : Int} (h : kd k = some d) (hs : Z5o t ng wd man x more p 0) (hw : wdP wd man) : FlR t k (spF d ng wd) 1 0 0
 | num {d : Kd} {ng more : Bool} {wd man x p n xx : Int} {tt : Int × Bool × Int} (h : kd k = some d) (hs : Z5o t ng wd man x more p 0) (hw : ¬ wdP wd man) (hx : ExR t n xx 0) (ht : fltT d n xx tt) :
   FlR t k (if tt.2.2 = 0 then sgF d ng tt.1 else 0) (roadS d k man x more) 0 (if tt.2.2 = 0 then 0 else 90)
theorem FlR.unique {t : L8} {k b r p e b' r' p' e' : Int} (h : FlR t k b r p e) (h' : FlR t k b' r' p' e') : b = b' ∧ r = r' ∧ p = p' ∧ e = e' := by
 cases h with
 | kind h =>
  cases h' with
  | kind _ => exact ⟨rfl, rfl, rfl, rfl⟩
  | err h2 _ _ => rw [h] at h2; cases h2
  | word h2 _ _ => rw [h] at h2; cases h2
  | num h2 _ _ _ _ => rw [h] at h2; cases h2
 | err h hs he =>
  cases h' with
  | kind h2 => rw [h] at h2; cases h2
  | err h2 hs2 _ => obtain ⟨_, _, _, _, _, rfl, rfl⟩ := hs.unique hs2; exact ⟨rfl, rfl, rfl, rfl⟩
  | word h2 hs2 _ => obtain ⟨_, _, _, _, _, _, h3⟩ := hs.unique hs2; exact absurd h3 he
  | num h2 hs2 _ _ _ => obtain ⟨_, _, _, _, _, _, h3⟩ := hs.unique hs2; exact absurd h3 he
 | word h hs hw =>
  cases h' with
  | kind h2 => rw [h] at h2; cases h2
  | err h2 hs2 he => obtain ⟨_, _, _, _, _, _, h3⟩ := hs.unique hs2; exact absurd h3.symm he
  | word h2 hs2 _ => obtain ⟨rfl, rfl, rfl, rfl, rfl, rfl, _⟩ := hs.unique hs2; rw [h] at h2; cases h2; exact ⟨rfl, rfl, rfl, rfl⟩
  | num h2 hs2 H2 _ _ => obtain ⟨rfl, rfl, rfl, rfl, rfl, rfl, _⟩ := hs.unique hs2; exact absurd hw H2
 | num h hs hw hx ht =>
  cases h' with
  | kind h2 => rw [h] at h2; cases h2
  | err h2 hs2 he => obtain ⟨_, _, _, _, _, _, h3⟩ := hs.unique hs2; exact absurd h3.symm he
  | word h2 hs2 H2 => obtain ⟨rfl, rfl, rfl, rfl, rfl, rfl, _⟩ := hs.unique hs2; exact absurd H2 hw
  | num h2 hs2 _ hx2 ht2 =>
   obtain ⟨rfl, rfl, rfl, rfl, rfl, rfl, _⟩ := hs.unique hs2
   obtain ⟨rfl, rfl, _⟩ := hx.unique hx2
   rw [h] at h2
   cases h2
   obtain rfl := ht.unique ht2
   exact ⟨rfl, rfl, rfl, rfl⟩
def AskR (t : L8) (cp A : Option Addr) (tc : Nat) (k : Int) (r : Value) : Prop :=
 (kd k = none ∧ r = .tuple #[.agg #[.pointer none, .int .i64 0, .slice none 0 0, .bool false, .int .i64 0, .int .u64 0, .int .i64 0, .bool false], .int .i64 0, .int .i64 30]) ∨
 ∃ d ng wd man x more p e, kd k = some d ∧ Z5o t ng wd man x more p e ∧ r = .tuple #[.agg #[.pointer cp, .int .i64 k, .slice A t.length tc, .bool ng, .int .i64 wd, .int .u64 man, .int .i64 x, .bool more], .int .i64 p, .int .i64 e]
theorem nanE (k : Int) (w : World) : Z0f P 48 [.int .i64 k] w fun r w' => r = .tuple #[.int .u64 (match kd k with | some d => nanS d | none => 0), .int .i64 (if (kd k).isSome then 0 else 30)] ∧ Grow w w' [] := by
 refine (nanB k w).mono ?_
 rintro r w' ⟨h, hG⟩
 cases hk : kd k with
 | none => rw [hk] at h; exact ⟨h, hG⟩
 | some d => rw [hk] at h; exact ⟨h, hG⟩
theorem ExR.num0 {t : L8} {n x e n' x' : Int} (h : ExR t n x e) (k : ExR t n' x' 0) : n' = n ∧ x' = x ∧ 0 = e := k.unique h
theorem Z5o.pos0 {t : L8} {ng more : Bool} {wd man x p : Int} (h : Z5o t ng wd man x more p 0) : p = 0 := by
 cases h with
 | err _ he => exact absurd rfl he
 | nil _ _ => rfl
 | num _ _ _ => rfl
theorem asksP (cp : Option Addr) (k : Int) (A : Option Addr) (tc : Nat) (t : L8) (hL : t.length ≤ 1099511627776) (w : World) (hv : IB w (.slice A t.length tc) t) :
  Z0f P 137 [.pointer cp, .int .i64 k, .slice A t.length tc] w fun r w' => AskR t cp A tc k r ∧ Grow w w' [] := by
 refine Z0o func137 rfl ntmps137 rfl ?_
 have H0 := St.start w
 refine Z03 (Z00 ?_)
 refine Z0X H0 ta199 rfl rfl (fun b0_0 w1 H1 => ?_)
 refine Zg (Zg (Z01 (Z02 ?_)))
 refine Zk [0, 1, 2, 6] ?_
 refine Z03 (Z03 (Z00 (Zm ?_)))
 refine Zc func48 (nanE k w1) ?_
 rintro _ w2 ⟨rfl, hG⟩
 have H2 := hG _ _ _ _ H1
 simp only [Zca, Zna] at H2
 refine Zm ?_
 refine Zx (Zx (Zg (Z01 (Z02 ?_))))
 refine Zk [0, 1, 2, 6, 8] ?_
 refine Z03 (Z00 (Zm ?_))
 refine Zo ?_
 refine Z01 (Z02 ?_)
 refine Zk [0, 1, 2, 6, 8, 16] ?_
 (first | refine Z0c rfl ?_ ?_ | refine Z08 rfl ?_ ?_) <;> intro hc0
 ·have hno : kd k = none := by
   cases h : kd k with
   | none => rfl
   | some d => rw [h] at hc0; exact absurd rfl hc0
  refine Z03 (Z00 ?_)
  refine Z1b H2 mem0 rfl rfl underlying199 rfl Z6p rfl (.take (.take (.take (.take (.take (.take (.take (.take .nil)))))))) ?_
  refine Zm ?_
  refine Z0m H2 .head (.zero (.zero (.zero (.zero (.zero (.zero (.zero (.zero .nil)))))))) rfl Z6p rfl rfl ZC (fun w3 H3 => ?_)
  refine Zg (Zg (Z01 (Z02 ?_)))
  refine Zk [6, 7, 8] ?_
  refine Z0i ?_
  refine Z07 ?_
  refine Z12 results137 (.cell rfl (Z0E H3 mem0 underlying199 rfl Z6p (.take (.take (.take (.take (.take (.take (.take (.take .nil))))))))) (.tmp rfl (.tmp rfl .nil))) rfl ?_
  refine ⟨_, rfl, ?_⟩
  have H4 := St.del .head H3
  refine ⟨.inl ⟨hno, ?_⟩, H4.grows⟩
  rw [hno]
  rfl
 obtain ⟨d, hk⟩ : ∃ d, kd k = some d := by
  cases h : kd k with
  | none => rw [h] at hc0; exact absurd (show ¬ (30 : Int) = 0 by decide) hc0
  | some d => exact ⟨d, rfl⟩
 refine Z0a (Z02 ?_)
 refine Zk [0, 1, 2, 6] ?_
 refine Z03 (Z00 (Zm ?_))
 refine Z0I rfl rfl func193 rfl rfl (.cons rfl .nil) (scanS _ t hL w2 (H2.iarg hv)) ?_
 rintro _ w5 ⟨ng, wd, man, x, more, p, e, rfl, hSc, hG⟩
 have H5 := hG _ _ _ _ H2
 simp only [Zca, Zna] at H5
 refine Zm ?_
 refine Zx (Zx (Zx ?_))
 refine Z0X H5 ta174 rfl rfl (fun b4_6 w6 H6 => ?_)
 refine Z0m H6 .head (.zero (.zero (.zero (.zero (.zero .nil))))) rfl Z68 rfl rfl ZC (fun w7 H7 => ?_)
 refine Zg (Zg (Z01 (Z02 ?_)))
 refine Zk [0, 1, 2, 6, 7, 8, 9] ?_
 refine Z03 (Z00 (Zm (Zm (Zm ?_))))
 refine Z1b H7 mem0 rfl rfl underlying174 rfl Z68 rfl (.take (.take (.take (.take (.take .nil))))) ?_
 refine Z16 rfl rfl pl199 ta199 (.one rfl rfl ZR .zero (.one rfl rfl ZR (.succ .zero) (.one rfl rfl ZR (.succ (.succ .zero)) (.row rfl rfl rfl (.succ (.succ (.succ (.zero (.zero (.zero (.zero (.zero .nil)))))))) .nil)))) ?_
 refine Zm (Zm ?_)
 refine Z0m H7 (.tail .head) (.zero (.zero (.zero (.zero (.zero (.zero (.zero (.zero .nil)))))))) rfl Z6p rfl rfl ZC (fun w8 H8 => ?_)
 refine Zg (Zg (Z01 (Z02 ?_)))
 refine Zk [6, 7, 8] ?_
 refine Z0i ?_
 refine Z12 results137 (.cell rfl (Z0E H8 mem1 underlying199 rfl Z6p (.take (.take (.take (.take (.take (.take (.take (.take .nil))))))))) (.tmp rfl (.tmp rfl .nil))) rfl ?_
 refine ⟨_, rfl, ?_⟩
 have H10 := St.del .head (St.del (.tail .head) H8)
 exact ⟨.inr ⟨d, ng, wd, man, x, more, p, e, hk, hSc, rfl⟩, H10.grows⟩
theorem powT (n : Nat) (hb : Ma.blen ((10 : Int) ^ n) ≤ 8192) (w : World) : Z0f P 247 [.int .u64 10, .int .i64 (n : Int)] w fun r w' => ∃ v ls, r = .tuple #[v, .int .i64 0] ∧ Ma.Cn 18446744073709551616 ls (10 ^ n) ∧ Grow w w' [As.ri 24 .u64 v ls] := by
 obtain hn | hn : n ≤ 9223372036854775807 ∨ 9223372036854775807 < n := by omega
 ·refine (powN 10 n ZO ZO w).mono ?_
  intro r w' h
  rw [Z4P ZO (by rw [Int.toNat_natCast]; exact hb), Int.toNat_natCast] at h
  exact h
 exfalso
 have h1 : (10 : Int) ^ 2467 ≤ 10 ^ n := Ma.pow_mono ZO ZO
 have h2 := (Ma.blen_le_iff (Int.le_of_lt (Ma.pow_pos (show (0 : Int) < 10 by omega) n)) 8192).1 hb
 have h3 := big10
 omega
set_option exponentiation.threshold 10000 in
theorem Z5F {n : Nat} (h : n ≤ 2466) : Ma.blen ((10 : Int) ^ n) ≤ (8192 : Nat) := by
 refine (Ma.blen_le_iff (Int.le_of_lt (Ma.pow_pos ZO n)) 8192).2 ?_
 have h1 : (10 : Int) ^ n ≤ 10 ^ 2466 := Ma.pow_mono ZO h
 have h2 : (10 : Int) ^ 2466 < 2 ^ 8192 := by
  have : (10 : Nat) ^ 2466 < 2 ^ 8192 := by decide +kernel
  exact_mod_cast this
 omega
theorem flt_round {d : Kd} {n x : Int} {k : Int} {ng : Bool} {X Y : Int} {res : Int × Bool × Int} (hk : kd k = some d) (hr : Z54 k ng X Y res) (eX : X = n * 10 ^ x.toNat) (eY : Y = 10 ^ (-x).toNat) (hlx : Ma.blen X ≤ (8192 : Nat)) (hly : Ma.blen Y ≤ (8192 : Nat)) :
  ∃ t, fltT d n x t ∧ ((t.2.2 = 0 ∧ res = (sgF d ng t.1, t.2.1, 0)) ∨ (t.2.2 = 34 ∧ res = (0, false, 34))) := by
 unfold Z54 at hr
 rw [hk] at hr
 have hy : ¬ Y = 0 := by
  have := Ma.pow_pos (show (0 : Int) < 10 by omega) (-x).toNat
  omega
 have hr2 : (if 8192 < Ma.blen X ∨ 8192 < Ma.blen Y then res = (0, false, 21) else if Y = 0 then res = (0, false, 33) else ∃ t, RndR d.H (d.I - 1) (X * 2 ^ d.l) Y t ∧ res = sgR d ng t) := hr
 rw [if_neg ZO, if_neg hy] at hr2
 obtain ⟨t, ht, rfl⟩ := hr2
 subst eX eY
 refine ⟨t, ht, ?_⟩
 rcases RndR.bits ht with ⟨h0, h1, h2⟩ | ⟨h0, h1⟩
 ·left
  refine ⟨h0, ?_⟩
  rw [Z6L h0]
  rfl
 right
 refine ⟨h1, ?_⟩
 rw [sgR_no ZO, h1]
theorem exactPP (A : Option Addr) (tc : Nat) (t : L8) (hL : t.length ≤ 1099511627776) (k : Int) (ng : Bool) (d : Kd) (hk : kd k = some d) (man x0 : Int) (more : Bool) (L : L8) (q : Nat) (x : Int) (hN : NumX t man x0 more L q x) (w : World) (hv : IB w (.slice A t.length tc) t) :
  Z0f P 202 [.int .i64 k, .bool ng, .slice A t.length tc] w fun r w' => ∃ tt, fltT d (pv L) x tt ∧ r = .tuple #[.int .u64 (if tt.2.2 = 0 then sgF d ng tt.1 else 0), .int .i64 (if tt.2.2 = 0 then 0 else 90)] ∧ Grow w w' [] := by
 refine Z0o func202 rfl ntmps202 rfl ?_
 have H0 := St.start w
 have hx1 := hN.x1
 have hx2 := hN.x2
 have hLn := hN.ne
 have hL2 := hN.len
 have hpos := hN.pos
 have hbd := Z50 L.length L rfl hN.dg
 have hlead := pv_lead hN.dg hN.ne (fun e => hN.hd ((Z5U (d := 48)).1 e))
 have hbl := blen_pv L.length L rfl hN.dg
 have hdx := dtx_pv hN.dg (List.length_pos_iff.1 hN.ne) hN.hd
 refine Z03 (Z00 (Zg (Zg (Z01 (Z02 ?_)))))
 refine Zk [0, 1, 2] ?_
 refine Z03 (Z00 (Zm ?_))
 refine Z0I rfl rfl func245 rfl rfl (.cons rfl .nil) (exactS _ t hL w (H0.iarg hv)) ?_
 rintro _ w1 ⟨vn, ln, n0, xx0, e0, rfl, hcn, hE, hG⟩
 have H1 := hG _ _ _ _ H0
 simp only [Zca, Zna] at H1
 obtain ⟨rfl, rfl, rfl⟩ := hE.num0 hN.ex
 have hnv : nv ln = pv L := hcn.val
 have hln := Z58 hcn (k := 4 * 2048) ZO
 refine Zm ?_
 refine Zx (Zx (Zx (Zg (Zg (Zg (Z01 (Z02 ?_)))))))
 refine Zk [0, 1, 8, 9] ?_
 refine Z03 (Z00 (Zm ?_))
 refine Zc func246 (textN vn ln (cnU hcn) ZO w1 (H1.io mem0)) ?_
 rintro _ w2 ⟨rfl, hG⟩
 have H2 := hG _ _ _ _ H1
 simp only [Zca, Zna] at H2
 refine Z0j (s := 29) (v' := str L) rfl (by rw [hnv, hdx]) ?_
 refine Z5f rfl rfl underlying9 rfl ?_
 refine Zg (Z01 (Z02 ?_))
 refine Zk [0, 1, 8, 9, 11] ?_
 refine Z03 (Z0d (Z03 (Z00 (Zm (Zm ?_)))))
 refine Z0y rfl rfl rfl rfl (Z0l ZO) ?_
 refine Zw ?_
 refine Zg (Z01 (Z02 ?_))
 refine Zk [0, 1, 8, 9, 11, 31] ?_
 (first | refine Z0c rfl ?_ ?_ | refine Z08 rfl ?_ ?_) <;> intro hc0
 ·refine Z03 (Z00 (Zg (Zg (Z01 (Z02 ?_)))))
  refine Zk [6, 7] ?_
  refine Z0i ?_
  refine Z0k ?_
  refine Z07 ?_
  refine Z0P results202 rfl rfl ?_
  refine ⟨_, rfl, ?_⟩
  have H3 := St.del .head H2
  exact ⟨(0, false, 34), flt_huge (g := L.length - 1) hlead ZO, rfl, H3.grows⟩
 refine Z03 (Z00 (Zm (Zm ?_)))
 refine Z0y rfl rfl rfl rfl (Z0l ZO) ?_
 refine Zl ?_
 refine Zg (Z01 (Z02 ?_))
 refine Zk [0, 1, 8, 9, 36] ?_
 (first | refine Z0c rfl ?_ ?_ | refine Z08 rfl ?_ ?_) <;> intro hc1
 ·refine Z03 (Z00 (Zm (Zm ?_)))
  refine Z16 rfl rfl pl225 ta225 (.one rfl rfl ZR .zero .nil) ?_
  refine Zc func231 (joinZ k d hk ng w2) ?_
  rintro _ w4 ⟨rfl, hG⟩
  have H4 := hG _ _ _ _ H2
  simp only [Zca, Zna] at H4
  refine Zm ?_
  refine Zx (Zx (Zx (Zg (Zg (Zg (Z01 (Z02 ?_)))))))
  refine Zk [12, 14] ?_
  refine Z03 (Z00 (Zm (Zm (Zg (Zg (Z01 (Z02 ?_)))))))
  refine Zk [6, 7] ?_
  refine Z0i ?_
  refine Z0k ?_
  refine Z07 ?_
  refine Z0P results202 rfl rfl ?_
  refine ⟨_, rfl, ?_⟩
  have H5 := St.del .head H4
  refine ⟨(0, false, 0), flt_tiny (g := L.length) hpos hbd.2 ZO, ?_, H5.grows⟩
  unfold sgF
  cases ng <;> simp
 refine Z0a ?_
 refine Z0F ?_
 refine Z02 ?_
 refine Zk [0, 1, 8, 9] ?_
 refine Z03 (Z00 (Zm ?_))
 refine Z5T rfl rfl rfl rfl ?_
 refine Z0j (s := 53) (v' := .int .i64 ((x.toNat : Nat) : Int)) rfl (congrArg (Value.int .i64) ZO) ?_
 refine Zc func247 (powT (x.toNat) (Z5F ZO) w2) ?_
 rintro _ w6 ⟨vu, lu, rfl, hcu, hG⟩
 have H6 := hG _ _ _ _ H2
 simp only [Zca, Zna] at H6
 have hnu : nv lu = 10 ^ x.toNat := hcu.val
 have hlu := Z58 hcu (k := 8192) (Z5F ZO)
 refine Zm ?_
 refine Zx (Zx (Zg (Zg (Z01 (Z02 ?_)))))
 refine Zk [0, 1, 8, 9, 15] ?_
 refine Z03 (Z00 (Zm ?_))
 refine Z5M rfl rfl rfl (Z0l ZO) ?_
 refine Z5T rfl rfl rfl rfl ?_
 refine Z0j (s := 60) (v' := .int .i64 (((-x).toNat : Nat) : Int)) rfl (congrArg (Value.int .i64) ZO) ?_
 refine Zc func247 (powT ((-x).toNat) (Z5F ZO) w6) ?_
 rintro _ w7 ⟨vdn, ldn, rfl, hcdn, hG⟩
 have H7 := hG _ _ _ _ H6
 simp only [Zca, Zna] at H7
 have hnd : nv ldn = 10 ^ (-x).toNat := hcdn.val
 have hld := Z58 hcdn (k := 8192) (Z5F ZO)
 have hpb : Ma.blen (pv L * 10 ^ x.toNat) ≤ (8192 : Nat) := by
  rcases Int.lt_or_le x 1 with h | h
  ·rw [show x.toNat = 0 from by omega, Int.pow_zero, Int.mul_one]; omega
  refine Int.le_trans (Ma.blen_mono (Int.le_of_lt (Int.mul_pos hpos (Ma.pow_pos ZO _))) (b := 10 ^ (L.length + x.toNat)) ?_) (Z5F (n := L.length + x.toNat) ZO)
  rw [Int.pow_add]
  exact Int.mul_le_mul_of_nonneg_right (Int.le_of_lt hbd.2) (Int.le_of_lt (Ma.pow_pos ZO _))
 refine Zm ?_
 refine Zx (Zx (Zg (Zg (Z01 (Z02 ?_)))))
 refine Zk [0, 1, 8, 15, 17] ?_
 refine Z03 (Z00 (Zm (Zm ?_)))
 refine Zc func242 (mulS (cnU hcn) (cnU hcu) ZO ZO (by rw [hnv]; omega) (by rw [hnu]; exact Z5F ZO) (by rw [hnv, hnu]; exact hpb) (H7.io mem2) (H7.io mem1)) ?_
 rintro _ w8 ⟨vp, lp, rfl, hcp, hG⟩
 have H8 := hG _ _ _ _ H7
 simp only [Zca, Zna] at H8
 have hb2 : Ma.blen (nv ln * nv lu) ≤ (8192 : Nat) := by rw [hnv, hnu]; exact hpb
 have hlp := Z58 hcp (k := 8192) hb2
 have hnp : nv lp = pv L * 10 ^ x.toNat := by rw [show nv lp = nv ln * nv lu from hcp.val, hnv, hnu]
 refine Zm ?_
 refine Zx (Zx (Zg (Z01 (Z02 ?_))))
 refine Zk [0, 1, 8, 17] ?_
 refine Z03 (Z00 (Zm (Zm (Zm (Zm ?_)))))
 refine Zc func244 (roundB k ng vp vdn lp ldn (cnU hcp) (cnU hcdn) ZO ZO w8 (H8.io mem0) (H8.io mem1)) ?_
 rintro _ w9 ⟨res, rfl, hRo, hG⟩
 have H9 := hG _ _ _ _ H8
 simp only [Zca, Zna] at H9
 obtain ⟨tt, htt, hres⟩ := flt_round (n := pv L) (x := x) hk hRo hnp hnd (by rw [hnp]; exact hpb) (by rw [hnd]; exact Z5F ZO)
 have hcs : (tt.2.2 = 0 ∧ res.1 = sgF d ng tt.1 ∧ res.2.2 = 0) ∨ (tt.2.2 = 34 ∧ res.1 = 0 ∧ res.2.2 = 34) := by
  rcases hres with ⟨h, rfl⟩ | ⟨h, rfl⟩
  ·exact .inl ⟨h, rfl, rfl⟩
  exact .inr ⟨h, rfl, rfl⟩
 refine Zm ?_
 refine Zx (Zx (Zx (Zg (Zg (Zg (Z01 (Z02 ?_)))))))
 refine Zk [19, 21] ?_
 refine Z03 (Z03 (Z00 (Zm ?_)))
 refine Ze ?_
 refine Z01 (Z02 ?_)
 refine Zk [19, 21, 80] ?_
 (first | refine Z0c rfl ?_ ?_ | refine Z08 rfl ?_ ?_) <;> intro hc2
 ·refine Z03 (Z00 (Zg (Zg (Z01 (Z02 ?_)))))
  refine Zk [6, 7] ?_
  refine Z0i ?_
  refine Z07 ?_
  refine Z0P results202 rfl rfl ?_
  refine ⟨_, rfl, ?_⟩
  have H13 := St.del .head (St.del (.tail .head) (St.del (.tail (.tail .head)) (St.del (.tail (.tail (.tail .head))) H9)))
  have h34 : tt.2.2 = 34 := by rcases hcs with ⟨_, _, h⟩ | ⟨h, _, _⟩; omega; exact h
  exact ⟨tt, htt, by rw [if_neg ZO, if_neg ZO], H13.grows⟩
 refine Z0a (Z02 ?_)
 refine Zk [19, 21] ?_
 refine Z03 (Z00 (Zm (Zm (Zg (Zg (Z01 (Z02 ?_)))))))
 refine Zk [6, 7] ?_
 refine Z0i ?_
 refine Z0P results202 rfl rfl ?_
 refine ⟨_, rfl, ?_⟩
 have H17 := St.del .head (St.del (.tail .head) (St.del (.tail (.tail .head)) (St.del (.tail (.tail (.tail .head))) H9)))
 have h0 : tt.2.2 = 0 ∧ res.1 = sgF d ng tt.1 ∧ res.2.2 = 0 := by rcases hcs with h | ⟨_, _, h⟩; exact h; omega
 exact ⟨tt, htt, by rw [if_pos h0.1, if_pos h0.1, h0.2.1, h0.2.2]; rfl, H17.grows⟩
inductive TabR (k : Int) (ng : Bool) (wd man x : Int) (more : Bool) : Int → Bool → Int → Prop
 | kind (h : kd k = none) : TabR k ng wd man x more 0 false 30
 | word {d : Kd} (h : kd k = some d) (hw : wdP wd man) : TabR k ng wd man x more 0 false 81
 | far {d : Kd} (h : kd k = some d) (hw : ¬ wdP wd man) (hx : ¬ inQ x) : TabR k ng wd man x more 0 false 60
 | ends {d : Kd} {t1 t2 : Int × Bool × Int} (h : kd k = some d) (hw : ¬ wdP wd man) (hx : inQ x) (k1 : tabT d (tbLo x * man) x t1) (k2 : tabT d (tbHi x * mrF man more) x t2) : TabR k ng wd man x more (tabF d ng t1 t2).1 (tabF d ng t1 t2).2.1 (tabF d ng t1 t2).2.2
theorem TabR.unique {k wd man x : Int} {ng more ok ok' : Bool} {b e b' e' : Int} (h : TabR k ng wd man x more b ok e) (h' : TabR k ng wd man x more b' ok' e') : b = b' ∧ ok = ok' ∧ e = e' := by
 cases h with
 | kind h =>
  cases h' with
  | kind _ => exact ⟨rfl, rfl, rfl⟩
  | word h2 _ => rw [h] at h2; cases h2
  | far h2 _ _ => rw [h] at h2; cases h2
  | ends h2 _ _ _ _ => rw [h] at h2; cases h2
 | word h hw =>
  cases h' with
  | kind h2 => rw [h] at h2; cases h2
  | word _ _ => exact ⟨rfl, rfl, rfl⟩
  | far _ H2 _ => exact absurd hw H2
  | ends _ H2 _ _ _ => exact absurd hw H2
 | far h hw hx =>
  cases h' with
  | kind h2 => rw [h] at h2; cases h2
  | word _ H2 => exact absurd H2 hw
  | far _ _ _ => exact ⟨rfl, rfl, rfl⟩
  | ends _ _ hx2 _ _ => exact absurd hx2 hx
 | ends h hw hx k1 k2 =>
  cases h' with
  | kind h2 => rw [h] at h2; cases h2
  | word _ H2 => exact absurd H2 hw
  | far _ _ hx2 => exact absurd hx hx2
  | ends h2 _ _ k3 k4 =>
   rw [h] at h2
   cases h2
   obtain rfl := k1.unique k3
   obtain rfl := k2.unique k4
   exact ⟨rfl, rfl, rfl⟩
def cacT (k wd man x : Int) (L L' : Cac) : Prop := if (kd k).isSome = true ∧ ¬ wdP wd man then CacQ L x L' else L' = L
theorem CacQ.none {L : Cac} {x : Int} (h : ¬ inQ x) : CacQ L x L := by unfold CacQ; rw [if_neg (show ¬ (-342 ≤ x ∧ x ≤ 308) from h)]
theorem tab_round {d : Kd} {A x : Int} {k : Int} {ng : Bool} {X Y : Int} {res : Int × Bool × Int} (hk : kd k = some d) (hr : Z54 k ng X Y res) (eX : X = A * 2 ^ (tbE x).toNat) (eY : Y = 2 ^ (-(tbE x)).toNat) (hlx : Ma.blen X ≤ (8192 : Nat)) (hly : Ma.blen Y ≤ (8192 : Nat)) :
  ∃ t, tabT d A x t ∧ ((t.2.2 = 0 ∧ res = (sgF d ng t.1, t.2.1, 0)) ∨ (t.2.2 = 34 ∧ t.1 = 0 ∧ res = (0, false, 34))) := by
 unfold Z54 at hr
 rw [hk] at hr
 have hy : ¬ Y = 0 := by
  have := Ma.pow_pos (show (0 : Int) < 2 by omega) (-(tbE x)).toNat
  omega
 have hr2 : (if 8192 < Ma.blen X ∨ 8192 < Ma.blen Y then res = (0, false, 21) else if Y = 0 then res = (0, false, 33) else ∃ t, RndR d.H (d.I - 1) (X * 2 ^ d.l) Y t ∧ res = sgR d ng t) := hr
 rw [if_neg ZO, if_neg hy] at hr2
 obtain ⟨t, ht, rfl⟩ := hr2
 subst eX eY
 refine ⟨t, ht, ?_⟩
 rcases RndR.bits ht with ⟨h0, h1, h2⟩ | ⟨h0, h1⟩
 ·left
  refine ⟨h0, ?_⟩
  rw [Z6L h0]
  rfl
 right
 refine ⟨h1, h0, ?_⟩
 rw [sgR_no ZO, h1]
theorem Z6q (n : Nat) : Ma.blen ((2 : Int) ^ n) = n + 1 := by
 have p : (0 : Int) < 2 ^ n := Ma.pow_pos ZO n
 have h1 := (Ma.blen_le_iff (Int.le_of_lt p) (n + 1)).2 (by rw [Int.pow_succ]; omega)
 have h2 : ¬ Ma.blen ((2 : Int) ^ n) ≤ (n : Nat) := fun h => by
  have := (Ma.blen_le_iff (Int.le_of_lt p) n).1 h
  omega
 omega
theorem cn_one : Ma.Cn 18446744073709551616 [1] 1 := by
 have h := Ma.Cn.of_tr (B := 18446744073709551616) (l := [1]) (n := 1) (U.one (x := 1) (by omega)).dg rfl
 exact h
theorem w_parts (n : Int) : n % 18446744073709551616 + 18446744073709551616 * (n / 18446744073709551616) = n := by omega
theorem Z6g {a b : Int} (ha : 0 ≤ a) (ha2 : a ≤ 340282366920938463463374607431768211456) (hb : 0 ≤ b) (hb2 : b ≤ 18446744073709551616) : a * b < 2 ^ 193 := by
 have h1 := Int.mul_le_mul_of_nonneg_right ha2 hb
 have h2 := Int.mul_le_mul_of_nonneg_left hb2 (show (0 : Int) ≤ 340282366920938463463374607431768211456 by omega)
 have h3 : (340282366920938463463374607431768211456 : Int) * 18446744073709551616 < 2 ^ 193 := by decide
 omega
theorem Z70 {a e : Int} (h0 : 0 ≤ a) (h : a < 2 ^ 193) (he : e ≤ 1000) : Ma.blen (a * 2 ^ e.toNat) ≤ (8192 : Nat) := by
 have p : (0 : Int) < 2 ^ e.toNat := Ma.pow_pos ZO _
 have h1 := (Ma.blen_le_iff (Int.mul_nonneg h0 (Int.le_of_lt p)) (193 + e.toNat)).2 (by rw [Int.pow_add]; exact Int.mul_lt_mul_of_pos_right h p)
 omega
theorem sgF_inj {d : Kd} {ng : Bool} {a b : Int} (h : sgF d ng a = sgF d ng b) : a = b := by
 unfold sgF at h
 cases ng <;> simp at h <;> omega
theorem Z5G {A : Int} (h0 : 0 ≤ A) {n : Nat} (h : A < 2 ^ n) : Ma.blen A ≤ (n : Nat) := (Ma.blen_le_iff h0 n).2 h
theorem twoPP (v : Value) (l : List Int) (a : Int) (hc : Ma.Cn 18446744073709551616 l a) (ha : 0 < a) (hb : Ma.blen a ≤ (400 : Nat)) (e : Int) (he : -2000 ≤ e ∧ e ≤ 2000) (w : World) (hv : IV w v (ints .u64 l)) :
  Z0f P 243 [v, .int .i64 e] w fun r w' => ∃ v1 l1 v2 l2, r = .tuple #[v1, v2] ∧ Ma.Cn 18446744073709551616 l1 (a * 2 ^ e.toNat) ∧ Ma.Cn 18446744073709551616 l2 (2 ^ (-e).toNat) ∧ Grow w w' [As.ri 24 .u64 v2 l2, As.ri 24 .u64 v1 l1] := by
 refine Z0o func243 rfl ntmps243 rfl ?_
 have H0 := St.start w
 have hl := Z58 hc (k := 400) hb
 have hone := cn_one
 refine Z03 (Z00 (Zg (Zg (Z01 (Z02 ?_)))))
 refine Zk [0, 1] ?_
 refine Z03 (Z00 (Zm (Zm ?_)))
 refine Z5T rfl rfl rfl rfl ?_
 refine Z0j (s := 9) (v' := .int .i64 ((e.toNat : Nat) : Int)) rfl (congrArg (Value.int .i64) ZO) ?_
 refine Zc func249 (shlZ (k := e.toNat) hc ha ZO ZO (H0.iarg hv)) ?_
 rintro _ w1 ⟨vp, lp, rfl, hcp, hG⟩
 have H1 := hG _ _ _ _ H0
 simp only [Zca, Zna] at H1
 refine Zm ?_
 refine Zx (Zx (Zg (Z01 (Z02 ?_))))
 refine Zk [1, 4] ?_
 refine Z03 (Z00 ?_)
 refine Z2g H1 rfl rfl underlying155 ti24 rfl (.cons rfl ZR .nil) rfl rfl rfl (fun b2_0 w2 H2 => ?_)
 refine Zm ?_
 refine Z5M rfl rfl rfl (Z0l ZO) ?_
 refine Z5T rfl rfl rfl rfl ?_
 refine Z0j (s := 17) (v' := .int .i64 (((-e).toNat : Nat) : Int)) rfl (congrArg (Value.int .i64) ZO) ?_
 refine Zc func249 (shlZ (k := (-e).toNat) (la := [1]) hone ZO (by simp) (by rw [show Ma.blen 1 = 1 from by decide]; omega) (H2.ibl mem0)) ?_
 rintro _ w3 ⟨vq, lq, rfl, hcq, hG⟩
 have H3 := hG _ _ _ _ H2
 simp only [Zca, Zna] at H3
 refine Zm ?_
 refine Zx (Zx (Zg (Z01 (Z02 ?_))))
 refine Zk [4, 5] ?_
 refine Z03 (Z00 (Zm (Zm (Zg (Zg (Z01 (Z02 ?_)))))))
 refine Zk [4, 5] ?_
 refine Z0i ?_
 refine Z0P results243 rfl rfl ?_
 refine ⟨_, rfl, ?_⟩
 have H6 := St.del (.tail (.tail .head)) (St.front1 (St.front2 H3))
 exact ⟨vp, lp, vq, lq, rfl, hcp, by rw [Int.one_mul] at hcq; exact hcq, H6.grows⟩
theorem TableP (b : Nat) (L : Cac) (hL : L.length = 41) (k wd man x : Int) (ng more : Bool) (hman : 0 ≤ man ∧ man ≤ 18446744073709551615) (hxb : -9223372036854775808 ≤ x ∧ x ≤ 9223372036854775807) (w : World) (hS : Sep w.heap.size (fps (cacW b L)) w (cacW b L)) :
  Z0f P 199 [.pointer (some ⟨b, 0, none⟩), .int .i64 k, .agg #[.bool ng, .int .i64 wd, .int .u64 man, .int .i64 x, .bool more]] w fun r w' => ∃ bb ok e L', r = .tuple #[.int .u64 bb, .bool ok, .int .i64 e] ∧ TabR k ng wd man x more bb ok e ∧ cacT k wd man x L L' ∧ Z1C w w' (cacW b L) (cacW b L') := by
 refine Z0o func199 rfl ntmps199 rfl ?_
 have H0 : St w w.heap.size (fps (cacW b L)) (cacW b L) w := St.startS hS
 refine Z03 (Z00 ?_)
 refine Z57 H0 rfl rfl rfl (fun b0_0 w1 H1 => ?_)
 refine Zg (Zg (Zg (Z01 (Z02 ?_))))
 refine Zk [0, 1, 5] ?_
 refine Z03 (Z03 (Z00 (Zm ?_)))
 refine Zc func48 (nanE k w1) ?_
 rintro _ w2 ⟨rfl, hG⟩
 have H2 := hG _ _ _ _ H1
 simp only [Zca, Zna] at H2
 refine Zm ?_
 refine Zx (Zx (Zg (Z01 (Z02 ?_))))
 refine Zk [0, 1, 5, 8] ?_
 refine Z0d (Z03 (Z00 (Zm ?_)))
 refine Zo ?_
 refine Zg (Z01 (Z02 ?_))
 refine Zk [0, 1, 5, 8, 25] ?_
 (first | refine Z0c rfl ?_ ?_ | refine Z08 rfl ?_ ?_) <;> intro hc0
 ·have hno : kd k = none := by
   cases h : kd k with
   | none => rfl
   | some d => rw [h] at hc0; exact absurd rfl hc0
  refine Z03 (Z00 (Zm (Zg (Zg (Zg (Z01 (Z02 ?_)))))))
  refine Zk [6, 7, 8] ?_
  refine Z0i ?_
  refine Z0k ?_
  refine Z07 ?_
  refine Z12 results199 (.tmp rfl (.tmp rfl (.tmp rfl .nil))) rfl ?_
  refine ⟨_, rfl, ?_⟩
  have H5 := St.del (.tail (.tail .head)) (St.front2 (St.front2 H2))
  exact ⟨0, false, 30, L, by rw [hno]; rfl, .kind hno, by unfold cacT; rw [if_neg (by rw [hno]; simp)], H5.transS⟩
 obtain ⟨d, hk⟩ : ∃ d, kd k = some d := by
  cases h : kd k with
  | none => rw [h] at hc0; exact absurd (show ¬ (30 : Int) = 0 by decide) hc0
  | some d => exact ⟨d, rfl⟩
 refine Z03 (Z00 (Z09 fo174_1 rfl rfl rfl ?_))
 refine Z05 H2 mem0 rfl rfl underlying3 rfl rfl rfl ?_
 refine Zo ?_
 refine Zm ?_
 apply l_or 3 [0, 1, 5] rfl rfl (.cons rfl (.cons rfl (.cons rfl (.cons rfl .nil)))) rfl rfl (fun _ => rfl) rfl rfl rfl
 ·intro hg4_4
  refine Z09 Z5Z rfl rfl rfl ?_
  refine Z05 H2 mem0 rfl rfl underlying24 rfl rfl rfl ?_
  refine Ze ?_
  refine Z01 ?_
  exact Z0O rfl (.cons rfl (ZF hg4_4) (.cons rfl rfl (.cons rfl rfl (.cons rfl rfl .nil))))
 refine Zg (Z01 (Z02 ?_))
 refine Zk [0, 1, 5, 29] ?_
 (first | refine Z0c rfl ?_ ?_ | refine Z08 rfl ?_ ?_) <;> intro hc1
 ·refine Z03 (Z00 (Zg (Zg (Zg (Z01 (Z02 ?_))))))
  refine Zk [6, 7, 8] ?_
  refine Z0i ?_
  refine Z0k ?_
  refine Z07 ?_
  refine Z12 results199 (.tmp rfl (.tmp rfl (.tmp rfl .nil))) rfl ?_
  refine ⟨_, rfl, ?_⟩
  have H8 := St.del (.tail (.tail .head)) (St.front2 (St.front2 H2))
  exact ⟨0, false, 81, L, rfl, .word hk hc1, by unfold cacT; rw [if_neg (fun h => h.2 hc1)], H8.transS⟩
 have hnw : ¬ wdP wd man := hc1
 have hm0 : 0 < man := by unfold wdP at hnw; omega
 refine Z03 (Z00 ?_)
 refine Z1b H2 mem0 rfl rfl underlying174 rfl Z68 rfl (.take (.take (.take (.take (.take .nil))))) ?_
 refine Z16 rfl rfl pl199 ta199 (.row rfl rfl rfl (.succ (.succ (.succ (.zero (.zero (.zero (.zero (.zero .nil)))))))) .nil) ?_
 refine Zc func140 (tabledP none none 0 0 0 wd man x ng more w2) ?_
 rintro _ w9 ⟨rfl, hG⟩
 have H9 := hG _ _ _ _ H2
 simp only [Zca, Zna] at H9
 first | refine Z38 rfl rfl rfl ?_ | refine Z3v rfl rfl rfl ?_
 refine Zg (Z01 (Z02 ?_))
 refine Zk [0, 1, 5, 38] ?_
 (first | refine Z0c rfl ?_ ?_ | refine Z08 rfl ?_ ?_) <;> intro hc2
 ·refine Z03 (Z00 (Zg (Zg (Zg (Z01 (Z02 ?_))))))
  refine Zk [6, 7, 8] ?_
  refine Z0i ?_
  refine Z0k ?_
  refine Z07 ?_
  refine Z12 results199 (.tmp rfl (.tmp rfl (.tmp rfl .nil))) rfl ?_
  refine ⟨_, rfl, ?_⟩
  have H12 := St.del (.tail (.tail .head)) (St.front2 (St.front2 H9))
  have hin : ¬ inQ x := by simpa using hc2
  exact ⟨0, false, 60, L, rfl, .far hk hnw hin, by unfold cacT; rw [if_pos ⟨by rw [hk]; rfl, hnw⟩]; exact CacQ.none hin, H12.transS⟩
 have hin : inQ x := by simpa using hc2
 have hf := tb_f hin
 have f1 := hf.f1
 have f2 := hf.f2
 have f3 := hf.m
 have f4 := hf.m0
 have f5 := hf.e1
 have f6 := hf.e2
 have f7 := hf.lo
 have f8 := hf.hi
 have f9 := hf.er
 have hin2 := hin
 unfold inQ at hin2
 refine Z0a ?_
 refine Z0F ?_
 refine Z02 ?_
 refine Zk [0, 1, 5] ?_
 refine Z03 (Z00 (Zm (Z09 Z5i rfl rfl rfl ?_)))
 refine Z05 H9 mem0 rfl rfl underlying3 rfl rfl rfl ?_
 have H13 := St.frontL (l := [_, _]) H9
 simp only [Zca, Zna] at H13
 have H14 := St.frontL (l := [_, _]) H13
 simp only [Zca, Zna] at H14
 refine Zc func236 (EntryC b L hL x hxb w9 (St.rows (τ := cacW b L) H14)) ?_
 rintro _ w15 ⟨L', rfl, hQ, hX⟩
 have H15 := hX _ _ _ _ H14
 simp only [cacW, List.cons_append, List.nil_append] at H15
 refine Zm ?_
 refine Zx (Zx (Zx ?_))
 refine Z0X H15 ta270 rfl rfl (fun b8_8 w16 H16 => ?_)
 refine Z0m H16 .head (.zero (.zero .nil)) rfl Z5j rfl rfl ZC (fun w17 H17 => ?_)
 refine Zg (Zg (Z01 (Z02 ?_)))
 refine Zk [1, 5, 8, 9, 10] ?_
 refine Z03 (Z03 (Z00 (Zm ?_)))
 refine Zo ?_
 refine Z01 (Z02 ?_)
 refine Zk [1, 5, 8, 9, 10, 52] ?_
 (first | refine Z0c rfl ?_ ?_ | refine Z08 rfl ?_ ?_) <;> intro hc3
 ·refine Z03 (Z00 (Zm (Zg (Zg (Zg (Z01 (Z02 ?_)))))))
  refine Zk [6, 7, 8] ?_
  refine Z0i ?_
  refine Z07 ?_
  refine Z12 results199 (.tmp rfl (.tmp rfl (.tmp rfl .nil))) rfl ?_
  refine ⟨_, rfl, ?_⟩
  have H21 := St.del (.tail (.tail .head)) (St.del (.tail (.tail (.tail .head))) (St.front2 (St.front2 H17)))
  exact absurd f9 hc3
 refine Z0a (Z02 ?_)
 refine Zk [1, 5, 9, 10] ?_
 refine Z03 (Z00 ?_)
 refine Z2g H17 rfl rfl underlying155 ti24 rfl (.cons rfl ZR .nil) rfl rfl rfl (fun b11_0 w22 H22 => ?_)
 refine Zg (Z01 (Z02 ?_))
 refine Zk [1, 5, 9, 10, 11] ?_
 refine Z1q (ι := Value × List Int × Value × List Int) (fun (z0 : Value × List Int × Value × List Int) (w' : World) => match z0 with | ⟨va, la, vb, lb⟩ => St w w.heap.size (fps (cacW b L)) ([As.ri 24 .u64 va la, As.ri 24 .u64 vb lb, As.blk b11_0 24 [.int .u64 1], As.blk b0_0 174 [.bool ng, .int .i64 wd, .int .u64 man, .int .i64 x, .bool more], As.blk b 107 (cacC L'), As.many (inR L')]) w' ∧ Ma.Cn 18446744073709551616 la (entS x).1 ∧ Ma.Cn 18446744073709551616 lb (entS x).1) (fun (z0 : Value × List Int × Value × List Int) => match z0 with | ⟨va, la, vb, lb⟩ => [(12, va), (13, vb)]) [1, 5, 10, 11] (.cons rfl (.cons rfl (.cons rfl (.cons rfl .nil)))) ?_ ?_
 ·have H23 := H22.drewn
  refine Z1a (n := 6) [Zz,Zz,Zz,Zz,Zz,Zz] (fun wS => (As.blk b8_8 270 (wrow (entS x).1)).ok wS) ZK rfl rfl ?_
  apply Zu (L' := [Zy,Zz,Zz,Zz,Zz,Zz]) 0 (H23.ok mem1)
  ·intro wS sS
   refine Z1b (Z0r sS) mem0 rfl rfl underlying270 rfl Z5j rfl (.take (.take .nil)) ?_
   refine Z01 ?_
   exact Z04 rfl
  apply Zu (L' := [Zy,Zz,Zy,Zz,Zz,Zz]) 2 (H23.ok mem1)
  ·intro wS sS
   refine Z1b (Z0r sS) mem0 rfl rfl underlying270 rfl Z5j rfl (.take (.take .nil)) ?_
   refine Z01 ?_
   exact Z04 rfl
  refine Z0v (L' := [Zy,Zy,Zy,Zz,Zz,Zz]) 1 ZK rfl rfl ?_
  refine Zc func237 (fromN ((entS x).1 / 18446744073709551616) ((entS x).1 % 18446744073709551616) ZO ZO w22.drew) ?_
  rintro va w24 ⟨_, la, rfl, hca, hG⟩
  have H24 := hG _ _ _ _ H23
  simp only [Zca, Zna] at H24
  refine Z01 ?_
  refine Z0n (H24.ok mem2) ?_
  refine Z0v (L' := [Zy,Zy,Zy,Zy,Zz,Zz]) 3 ZK rfl rfl ?_
  refine Zc func237 (fromN ((entS x).1 / 18446744073709551616) ((entS x).1 % 18446744073709551616) ZO ZO w24) ?_
  rintro vb w25 ⟨_, lb, rfl, hcb, hG⟩
  have H25 := hG _ _ _ _ H24
  simp only [Zca, Zna] at H25
  refine Z01 ?_
  refine Z0n (H25.ok mem3) ?_
  apply Zu (L' := [Zy,Zy,Zy,Zy,Zy,Zz]) 4 (H25.ok mem3)
  ·intro wS sS
   refine Zg (Z01 ?_)
   exact Z04 rfl
  apply Zu (L' := [Zy,Zy,Zy,Zy,Zy,Zy]) 5 (H25.ok mem3)
  ·intro wS sS
   refine Zg (Z01 ?_)
   exact Z04 rfl
  refine Z0B ZK ?_
  have H26 := St.frontL (l := [_, _, _, _, _]) H25
  simp only [Zca, Zna] at H26
  have H27 := St.frontL (l := [_, _, _, _, _]) H26
  simp only [Zca, Zna] at H27
  have H28 := St.frontL (l := [_, _, _, _, _, _]) H27
  simp only [Zca, Zna] at H28
  have H29 := St.frontL (l := [_, _, _, _, _]) H28
  simp only [Zca, Zna] at H29
  have H30 := St.frontL (l := [_, _, _, _]) H29
  simp only [Zca, Zna] at H30
  have H31 := St.frontL (l := [_, _, _, _, _]) H30
  simp only [Zca, Zna] at H31
  have H32 := St.del (.tail (.tail (.tail (.tail (.tail (.tail .head)))))) H31
  refine Z0w (va, la, vb, lb) ?_ (.cons rfl (.cons rfl (.cons rfl (.cons rfl .nil)))) ?_
  ·exact ⟨H32, by rw [w_parts] at hca; exact hca, by rw [w_parts] at hcb; exact hcb⟩
  exact (.cons rfl ZN (.cons rfl ZN .nil))
 rintro ⟨va, la, vb, lb⟩ w33 ⟨H33, hca, hcb⟩
 have hna : nv la = (entS x).1 := hca.val
 have hnb : nv lb = (entS x).1 := hcb.val
 have hbM := Z5G (A := (entS x).1) (n := 128) ZO (by rw [show (2 : Int) ^ 128 = 340282366920938463463374607431768211456 from by decide]; omega)
 have hbM1 := Z5G (A := (entS x).1 + 1) (n := 129) ZO (by rw [show (2 : Int) ^ 129 = 680564733841876926926749214863536422912 from by decide]; omega)
 have hla := Z58 hca (k := 128) hbM
 have hlb := Z58 hcb (k := 128) hbM
 show RunC P _ _ _ (_ :: _) _
 refine Z1q (ι := Value × List Int × Value × List Int) (fun (z0 : Value × List Int × Value × List Int) (w' : World) => match z0 with | ⟨va, la, vb, lb⟩ => St w w.heap.size (fps (cacW b L)) ([As.ri 24 .u64 va la, As.ri 24 .u64 vb lb, As.blk b11_0 24 [.int .u64 1], As.blk b0_0 174 [.bool ng, .int .i64 wd, .int .u64 man, .int .i64 x, .bool more], As.blk b 107 (cacC L'), As.many (inR L')]) w' ∧ Ma.Cn 18446744073709551616 la (tbLo x) ∧ Ma.Cn 18446744073709551616 lb (tbHi x)) (fun (z0 : Value × List Int × Value × List Int) => match z0 with | ⟨va, la, vb, lb⟩ => [(12, va), (13, vb)]) [1, 5, 10, 11] (.cons rfl (.cons rfl (.cons rfl (.cons rfl .nil)))) ?_ ?_
 ·refine Z0d (Z03 (Z00 (Z09 Z5i rfl rfl rfl ?_)))
  refine Z05 H33 mem3 rfl rfl underlying3 rfl rfl rfl ?_
  refine Zl ?_
  refine Zg (Z01 (Z02 ?_))
  refine Zk [1, 5, 10, 11, 12, 13, 59] ?_
  (first | refine Z0c rfl ?_ ?_ | refine Z08 rfl ?_ ?_) <;> intro hc4
  ·refine Z00 (Zm (Zm ?_))
   refine Z0I rfl rfl func238 rfl rfl (.cons rfl (.cons rfl .nil)) (subN va _ la [1] (cnU hca) (U.one ZO) ZO (by simp) w33 (H33.io mem0) (H33.ibl mem2)) ?_
   rintro _ w34 ⟨vs, ls, rfl, hcs, hG⟩
   have H34 := hG _ _ _ _ H33
   simp only [Zca, Zna] at H34
   refine Zm ?_
   refine Zx (Zx (Zg (Z01 ?_)))
   refine Z0F ?_
   have H35 := St.frontL (l := [_, _, _, _, _, _]) H34
   simp only [Zca, Zna] at H35
   have H36 := St.frontL (l := [_, _, _, _, _, _]) H35
   simp only [Zca, Zna] at H36
   have H37 := St.frontL (l := [_, _, _, _, _, _]) H36
   simp only [Zca, Zna] at H37
   have H38 := St.frontL (l := [_, _, _, _, _, _]) H37
   simp only [Zca, Zna] at H38
   have H39 := St.frontL (l := [_, _, _, _, _, _]) H38
   simp only [Zca, Zna] at H39
   have H40 := St.frontL (l := [_, _, _, _, _]) H39
   simp only [Zca, Zna] at H40
   have H41 := St.del (.tail (.tail (.tail (.tail (.tail (.tail .head)))))) H40
   refine Z0w (vs, ls, vb, lb) ?_ (.cons rfl (.cons rfl (.cons rfl (.cons rfl .nil)))) ?_
   ·refine ⟨H41, ?_, ?_⟩
    ·rw [hna, Z6K, if_pos ZO] at hcs
     unfold tbLo
     rw [if_pos ZO]
     exact hcs
    unfold tbHi
    rw [if_pos ZO]
    exact hcb
   exact (.cons rfl ZN (.cons rfl ZN .nil))
  refine Z03 (Z00 ?_)
  have hx0 : ¬ x < 0 := hc4
  refine Z09 Z5i rfl rfl rfl ?_
  refine Z05 H33 mem3 rfl rfl underlying3 rfl rfl rfl ?_
  refine Zp func239 (exactP x _) ?_
  first | refine Z38 rfl rfl rfl ?_ | refine Z3v rfl rfl rfl ?_
  refine Zg (Z01 (Z02 ?_))
  refine Zk [1, 5, 10, 11, 12, 13, 69] ?_
  (first | refine Z0c rfl ?_ ?_ | refine Z08 rfl ?_ ?_) <;> intro hc5
  ·refine Z00 (Zm (Zm ?_))
   refine Zc func240 (addS (cnU hcb) (U.one ZO) ZO (by simp) (by rw [hnb]; omega) (by rw [Z6K]; decide) (by rw [hnb, Z6K]; omega) (H33.io mem1) (H33.ibl mem2)) ?_
   rintro _ w42 ⟨vs, ls, rfl, hcs, hG⟩
   have H42 := hG _ _ _ _ H33
   simp only [Zca, Zna] at H42
   refine Zm ?_
   refine Zx (Zx (Zg (Z01 ?_)))
   refine Z0F ?_
   have H43 := St.frontL (l := [_, _, _, _, _, _]) H42
   simp only [Zca, Zna] at H43
   have H44 := St.frontL (l := [_, _, _, _, _, _]) H43
   simp only [Zca, Zna] at H44
   have H45 := St.frontL (l := [_, _, _, _, _, _]) H44
   simp only [Zca, Zna] at H45
   have H46 := St.frontL (l := [_, _, _, _, _, _]) H45
   simp only [Zca, Zna] at H46
   have H47 := St.frontL (l := [_, _, _, _]) H46
   simp only [Zca, Zna] at H47
   have H48 := St.frontL (l := [_, _, _, _, _]) H47
   simp only [Zca, Zna] at H48
   have H49 := St.del (.tail (.tail (.tail (.tail (.tail (.tail .head)))))) H48
   refine Z0w (va, la, vs, ls) ?_ (.cons rfl (.cons rfl (.cons rfl (.cons rfl .nil)))) ?_
   ·have hx55 : ¬ x ≤ 55 := fun h => by simp at hc5; omega
    refine ⟨H49, ?_, ?_⟩
    ·unfold tbLo
     rw [if_neg hx0]
     exact hca
    rw [hnb, Z6K] at hcs
    unfold tbHi
    rw [if_neg hx0, if_neg hx55]
    exact hcs
   exact (.cons rfl ZN (.cons rfl ZN .nil))
  refine Z0a ?_
  refine Z0F ?_
  have H50 := St.frontL (l := [_, _, _, _, _]) H33
  simp only [Zca, Zna] at H50
  have H51 := St.frontL (l := [_, _, _, _, _]) H50
  simp only [Zca, Zna] at H51
  have H52 := St.frontL (l := [_, _, _, _, _]) H51
  simp only [Zca, Zna] at H52
  have H53 := St.frontL (l := [_, _, _, _, _]) H52
  simp only [Zca, Zna] at H53
  have H54 := St.frontL (l := [_, _, _, _, _]) H53
  simp only [Zca, Zna] at H54
  have H55 := St.frontL (l := [_, _, _, _, _]) H54
  simp only [Zca, Zna] at H55
  refine Z0w (va, la, vb, lb) ?_ (.cons rfl (.cons rfl (.cons rfl (.cons rfl .nil)))) ?_
  ·have hx55 : x ≤ 55 := by simp at hc5; omega
   refine ⟨H55, ?_, ?_⟩
   ·unfold tbLo
    rw [if_neg hx0]
    exact hca
   unfold tbHi
   rw [if_neg hx0, if_pos hx55]
   exact hcb
  exact (.cons rfl ZN (.cons rfl ZN .nil))
 rintro ⟨va, la, vb, lb⟩ w56 ⟨H56, hca, hcb⟩
 have hna : nv la = tbLo x := hca.val
 have hnb : nv lb = tbHi x := hcb.val
 have htl : tbLo x ≤ 340282366920938463463374607431768211456 := by unfold tbLo; split <;> omega
 have hth : 0 < tbHi x := by unfold tbHi; split; omega; split <;> omega
 have hbl := Z5G (A := tbLo x) (n := 129) ZO (by rw [show (2 : Int) ^ 129 = 680564733841876926926749214863536422912 from by decide]; omega)
 have hbh := Z5G (A := tbHi x) (n := 129) ZO (by rw [show (2 : Int) ^ 129 = 680564733841876926926749214863536422912 from by decide]; omega)
 have hla := Z58 hca (k := 129) hbl
 have hlb := Z58 hcb (k := 129) hbh
 show RunC P _ _ _ (_ :: _) _
 refine Z03 (Z00 (Z09 Z5Z rfl rfl rfl ?_))
 refine Z05 H56 mem3 rfl rfl underlying24 rfl rfl rfl ?_
 refine Zc func241 (ofN man hman w56) ?_
 rintro vm w57 ⟨_, lm, rfl, hcm, hG⟩
 have H57 := hG _ _ _ _ H56
 simp only [Zca, Zna] at H57
 have hnm : nv lm = man := hcm.val
 have hbm := Z5G (A := man) hman.1 (n := 64) (by rw [show (2 : Int) ^ 64 = 18446744073709551616 from by decide]; omega)
 have hbm1 := Z5G (A := man + 1) (n := 65) ZO (by rw [show (2 : Int) ^ 65 = 36893488147419103232 from by decide]; omega)
 have hlm := Z58 hcm (k := 64) hbm
 have hbp := Z5G (A := tbLo x * man) (n := 193) (Int.mul_nonneg ZO ZO) (Z6g ZO ZO ZO ZO)
 refine Zg (Z01 (Z02 ?_))
 refine Zk [1, 5, 10, 11, 12, 13, 14] ?_
 refine Z03 (Z00 (Zm (Zm ?_)))
 refine Zc func242 (mulS (cnU hca) (cnU hcm) ZO ZO (by rw [hna]; omega) (by rw [hnm]; omega) (by rw [hna, hnm]; omega) (H57.io mem1) (H57.io mem0)) ?_
 rintro _ w58 ⟨vl, ll, rfl, hcl, hG⟩
 have H58 := hG _ _ _ _ H57
 simp only [Zca, Zna] at H58
 have hnl : nv ll = tbLo x * man := by rw [show nv ll = nv la * nv lm from hcl.val, hna, hnm]
 have hcl2 : Ma.Cn 18446744073709551616 ll (tbLo x * man) := by rw [← hna, ← hnm]; exact hcl
 have hll := Z58 hcl2 (k := 193) hbp
 have hlp0 : 0 < tbLo x * man := Int.mul_pos f7 hm0
 refine Zm ?_
 refine Zx (Zx (Zg (Z01 (Z02 ?_))))
 refine Zk [1, 5, 10, 11, 12, 13, 14] ?_
 refine Z1q (ι := Value × List Int) (fun (z0 : Value × List Int) (w' : World) => match z0 with | ⟨vm, lm⟩ => St w w.heap.size (fps (cacW b L)) ([As.ri 24 .u64 vm lm, As.ri 24 .u64 vl ll, As.ri 24 .u64 vb lb, As.blk b0_0 174 [.bool ng, .int .i64 wd, .int .u64 man, .int .i64 x, .bool more], As.blk b 107 (cacC L'), As.many (inR L')]) w' ∧ Ma.Cn 18446744073709551616 lm (mrF man more)) (fun (z0 : Value × List Int) => match z0 with | ⟨vm, lm⟩ => [(14, vm)]) [1, 5, 10, 12, 13] (.cons rfl (.cons rfl (.cons rfl (.cons rfl (.cons rfl .nil))))) ?_ ?_
 ·refine Z03 (Z00 (Z09 Z73 rfl rfl rfl ?_))
  refine Z05 H58 mem5 rfl rfl underlying4 rfl rfl rfl ?_
  refine Z01 (Z02 ?_)
  refine Zk [1, 5, 10, 11, 12, 13, 14, 90] ?_
  (first | refine Z0c rfl ?_ ?_ | refine Z08 rfl ?_ ?_) <;> intro hc6
  ·refine Z00 (Zm (Zm ?_))
   refine Zc func240 (addS (cnU hcm) (U.one ZO) ZO (by simp) (by rw [hnm]; omega) (by rw [Z6K]; decide) (by rw [hnm, Z6K]; omega) (H58.io mem1) (H58.ibl mem4)) ?_
   rintro _ w59 ⟨vs, ls, rfl, hcs, hG⟩
   have H59 := hG _ _ _ _ H58
   simp only [Zca, Zna] at H59
   refine Zm ?_
   refine Zx (Zx (Zg (Z01 ?_)))
   have H60 := St.frontL (l := [_, _, _, _, _, _, _, _]) H59
   simp only [Zca, Zna] at H60
   have H61 := St.frontL (l := [_, _, _, _, _, _, _, _]) H60
   simp only [Zca, Zna] at H61
   have H62 := St.frontL (l := [_, _, _, _, _, _, _, _]) H61
   simp only [Zca, Zna] at H62
   have H63 := St.frontL (l := [_, _, _, _, _, _, _]) H62
   simp only [Zca, Zna] at H63
   have H64 := St.frontL (l := [_, _, _, _, _]) H63
   simp only [Zca, Zna] at H64
   have H65 := St.frontL (l := [_, _, _, _, _]) H64
   simp only [Zca, Zna] at H65
   have H68 := St.del (.tail (.tail (.tail (.tail (.tail (.tail .head)))))) (St.del (.tail (.tail (.tail (.tail (.tail (.tail (.tail .head))))))) (St.del (.tail (.tail (.tail (.tail (.tail (.tail (.tail (.tail .head)))))))) H65))
   refine Z0w (vs, ls) ?_ (.cons rfl (.cons rfl (.cons rfl (.cons rfl (.cons rfl .nil))))) ?_
   ·refine ⟨H68, ?_⟩
    rw [hnm, Z6K] at hcs
    unfold mrF
    rw [if_pos hc6]
    exact hcs
   exact (.cons rfl ZN .nil)
  refine Z0a ?_
  have H69 := St.frontL (l := [_, _, _, _, _, _, _]) H58
  simp only [Zca, Zna] at H69
  have H70 := St.frontL (l := [_, _, _, _, _, _, _]) H69
  simp only [Zca, Zna] at H70
  have H71 := St.frontL (l := [_, _, _, _, _, _, _]) H70
  simp only [Zca, Zna] at H71
  have H72 := St.frontL (l := [_, _, _, _, _, _]) H71
  simp only [Zca, Zna] at H72
  have H73 := St.frontL (l := [_, _, _, _]) H72
  simp only [Zca, Zna] at H73
  have H74 := St.frontL (l := [_, _, _, _, _]) H73
  simp only [Zca, Zna] at H74
  have H76 := St.del (.tail (.tail (.tail (.tail (.tail (.tail .head)))))) (St.del (.tail (.tail (.tail (.tail (.tail (.tail (.tail .head))))))) H74)
  refine Z0w (vm, lm) ?_ (.cons rfl (.cons rfl (.cons rfl (.cons rfl (.cons rfl .nil))))) ?_
  ·refine ⟨H76, ?_⟩
   unfold mrF
   rw [if_neg (by rw [hc6]; decide)]
   exact hcm
  exact (.cons rfl ZN .nil)
 rintro ⟨vm, lm⟩ w77 ⟨H77, hcm⟩
 have hnm : nv lm = mrF man more := hcm.val
 have hmr : 0 < mrF man more ∧ mrF man more ≤ 18446744073709551616 := by unfold mrF; split <;> omega
 have hbm := Z5G (A := mrF man more) ZO (n := 65) (by rw [show (2 : Int) ^ 65 = 36893488147419103232 from by decide]; omega)
 have hlm := Z58 hcm (k := 65) hbm
 have hbp2 := Z5G (A := tbHi x * mrF man more) (n := 193) (Int.mul_nonneg ZO ZO) (Z6g ZO ZO ZO ZO)
 show RunC P _ _ _ (_ :: _) _
 refine Z03 (Z00 (Zm (Zm ?_)))
 refine Zc func242 (mulS (cnU hcb) (cnU hcm) ZO ZO (by rw [hnb]; omega) (by rw [hnm]; omega) (by rw [hnb, hnm]; omega) (H77.io mem2) (H77.io mem0)) ?_
 rintro _ w78 ⟨vh, lh, rfl, hch, hG⟩
 have H78 := hG _ _ _ _ H77
 simp only [Zca, Zna] at H78
 have hch2 : Ma.Cn 18446744073709551616 lh (tbHi x * mrF man more) := by rw [← hnb, ← hnm]; exact hch
 have hlh := Z58 hch2 (k := 193) hbp2
 have hhp0 : 0 < tbHi x * mrF man more := Int.mul_pos hth hmr.1
 refine Zm ?_
 refine Zx (Zx (Zg (Z01 (Z02 ?_))))
 refine Zk [1, 5, 10, 12, 13] ?_
 refine Z03 (Z00 (Zm (Zm (Z09 Z5i rfl rfl rfl ?_))))
 refine Z05 H78 mem4 rfl rfl underlying3 rfl rfl rfl ?_
 refine Z0y rfl rfl rfl rfl (Z0l ZO) ?_
 refine Z0j (s := 108) (v' := .int .i64 (tbE x)) rfl rfl ?_
 refine Z0I rfl rfl func243 rfl rfl (.cons rfl (.cons rfl .nil)) (twoPP vl ll _ hcl2 hlp0 ZO (tbE x) ZO w78 (H78.io mem2)) ?_
 rintro _ w79 ⟨v1, l1, v2, l2, rfl, hc1n, hc1d, hG⟩
 have H79 := hG _ _ _ _ H78
 simp only [Zca, Zna] at H79
 have hl1 := Z58 hc1n (k := 8192) (Z70 ZO (Z6g ZO ZO ZO ZO) f6)
 have hl2 := Z58 hc1d (k := 8192) (by rw [Z6q]; omega)
 refine Zm ?_
 refine Zx (Zx (Zg (Zg (Z01 (Z02 ?_)))))
 refine Zk [1, 5, 10, 13, 15, 16] ?_
 refine Z03 (Z00 (Zm (Z09 Z5Y rfl rfl rfl ?_)))
 refine Z05 H79 mem6 rfl rfl underlying4 rfl rfl rfl ?_
 refine Zm (Zm ?_)
 refine Zc func244 (roundB k ng v1 v2 l1 l2 (cnU hc1n) (cnU hc1d) ZO ZO w79 (H79.io mem1) (H79.io mem0)) ?_
 rintro _ w80 ⟨r1, rfl, hR1, hG⟩
 have H80 := hG _ _ _ _ H79
 simp only [Zca, Zna] at H80
 obtain ⟨t1, ht1, hrest1⟩ := tab_round (A := tbLo x * man) (x := x) hk hR1 hc1n.val hc1d.val (by rw [show nv l1 = _ from hc1n.val]; exact Z70 ZO (Z6g ZO ZO ZO ZO) f6) (by rw [show nv l2 = _ from hc1d.val, Z6q]; omega)
 have hcst1 : (t1.2.2 = 0 ∧ r1.1 = sgF d ng t1.1 ∧ r1.2.2 = 0) ∨ (t1.2.2 = 34 ∧ t1.1 = 0 ∧ r1.1 = 0 ∧ r1.2.2 = 34) := by
  rcases hrest1 with ⟨h, rfl⟩ | ⟨h, h2, rfl⟩
  ·exact .inl ⟨h, rfl, rfl⟩
  exact .inr ⟨h, h2, rfl, rfl⟩
 refine Zm ?_
 refine Zx (Zx (Zx (Zg (Zg (Z01 (Z02 ?_))))))
 refine Zk [1, 5, 6, 8, 10, 13] ?_
 refine Z03 (Z00 (Zm (Zm (Z09 Z5i rfl rfl rfl ?_))))
 refine Z05 H80 mem6 rfl rfl underlying3 rfl rfl rfl ?_
 refine Z0y rfl rfl rfl rfl (Z0l ZO) ?_
 refine Z0j (s := 127) (v' := .int .i64 (tbE x)) rfl rfl ?_
 refine Z0I rfl rfl func243 rfl rfl (.cons rfl (.cons rfl .nil)) (twoPP vh lh _ hch2 hhp0 ZO (tbE x) ZO w80 (H80.io mem2)) ?_
 rintro _ w81 ⟨v3, l3, v4, l4, rfl, hc2n, hc2d, hG⟩
 have H81 := hG _ _ _ _ H80
 simp only [Zca, Zna] at H81
 have hl3 := Z58 hc2n (k := 8192) (Z70 ZO (Z6g ZO ZO ZO ZO) f6)
 have hl4 := Z58 hc2d (k := 8192) (by rw [Z6q]; omega)
 refine Zm ?_
 refine Zx (Zx (Zg (Zg (Z01 (Z02 ?_)))))
 refine Zk [1, 5, 6, 8, 15, 16] ?_
 refine Z03 (Z00 (Zm (Z09 Z5Y rfl rfl rfl ?_)))
 refine Z05 H81 mem8 rfl rfl underlying4 rfl rfl rfl ?_
 refine Zm (Zm ?_)
 refine Zc func244 (roundB k ng v3 v4 l3 l4 (cnU hc2n) (cnU hc2d) ZO ZO w81 (H81.io mem1) (H81.io mem0)) ?_
 rintro _ w82 ⟨r2, rfl, hR2, hG⟩
 have H82 := hG _ _ _ _ H81
 simp only [Zca, Zna] at H82
 obtain ⟨t2, ht2, hrest2⟩ := tab_round (A := tbHi x * mrF man more) (x := x) hk hR2 hc2n.val hc2d.val (by rw [show nv l3 = _ from hc2n.val]; exact Z70 ZO (Z6g ZO ZO ZO ZO) f6) (by rw [show nv l4 = _ from hc2d.val, Z6q]; omega)
 have hcst2 : (t2.2.2 = 0 ∧ r2.1 = sgF d ng t2.1 ∧ r2.2.2 = 0) ∨ (t2.2.2 = 34 ∧ t2.1 = 0 ∧ r2.1 = 0 ∧ r2.2.2 = 34) := by
  rcases hrest2 with ⟨h, rfl⟩ | ⟨h, h2, rfl⟩
  ·exact .inl ⟨h, rfl, rfl⟩
  exact .inr ⟨h, h2, rfl, rfl⟩
 refine Zm ?_
 refine Zx (Zx (Zx (Zg (Zg (Zg (Z01 (Z02 ?_)))))))
 refine Zk [6, 8, 17, 19] ?_
 refine Z03 (Z0d (Z03 (Z00 (Zm ?_))))
 refine Ze ?_
 refine Zm ?_
 apply Z47 2 [6, 8, 17, 19] rfl rfl (.cons rfl (.cons rfl (.cons rfl (.cons rfl (.cons rfl .nil))))) rfl rfl (fun _ => rfl) rfl rfl rfl
 ·intro hg26_3
  refine Zm ?_
  refine Ze ?_
  refine Z01 ?_
  exact Z0O rfl (.cons rfl (ZT hg26_3) (.cons rfl rfl (.cons rfl rfl (.cons rfl rfl (.cons rfl rfl .nil)))))
 refine Zg (Z01 (Z02 ?_))
 refine Zk [6, 8, 17, 19, 141] ?_
 (first | refine Z0c rfl ?_ ?_ | refine Z08 rfl ?_ ?_) <;> intro hc7
 ·refine Z03 (Z00 (Zg (Zg (Zg (Z01 (Z02 ?_))))))
  refine Zk [6, 7, 8] ?_
  refine Z0i ?_
  refine Z0k ?_
  refine Z07 ?_
  refine Z12 results199 (.tmp rfl (.tmp rfl (.tmp rfl .nil))) rfl ?_
  refine ⟨_, rfl, ?_⟩
  have H83 := St.frontL (l := [_, _, _, _, _, _, _, _, _, _]) H82
  simp only [Zca, Zna] at H83
  have H84 := St.frontL (l := [_, _, _, _, _, _, _, _, _, _]) H83
  simp only [Zca, Zna] at H84
  have H93 := St.del (.tail (.tail .head)) (St.del (.tail (.tail (.tail .head))) (St.del (.tail (.tail (.tail (.tail .head)))) (St.del (.tail (.tail (.tail (.tail (.tail .head))))) (St.del (.tail (.tail (.tail (.tail (.tail (.tail .head)))))) (St.del (.tail (.tail (.tail (.tail (.tail (.tail (.tail .head))))))) (St.del (.tail (.tail (.tail (.tail (.tail (.tail (.tail (.tail .head)))))))) (St.del (.tail (.tail (.tail (.tail (.tail (.tail (.tail (.tail (.tail .head))))))))) (St.del (.tail (.tail (.tail (.tail (.tail (.tail (.tail (.tail (.tail (.tail .head)))))))))) H84))))))))
  have e : tabF d ng t1 t2 = (0, false, 90) := if_pos ZO
  have hT := TabR.ends (ng := ng) (more := more) hk hnw hin ht1 ht2
  rw [e] at hT
  exact ⟨0, false, 90, L', rfl, hT, by unfold cacT; rw [if_pos ⟨by rw [hk]; rfl, hnw⟩]; exact hQ, H93.transS⟩
 refine Z03 (Z00 (Zm (Zm ?_)))
 refine Zo ?_
 refine Zm ?_
 apply l_or 3 [6] rfl rfl (.cons rfl (.cons rfl .nil)) rfl rfl (fun _ => rfl) rfl rfl rfl
 ·intro hg28_4
  refine Zm (Zm ?_)
  refine Zo ?_
  refine Z01 ?_
  exact Z0O rfl (.cons rfl (ZF hg28_4) (.cons rfl rfl .nil))
 refine Zg (Z01 (Z02 ?_))
 refine Zk [6, 148] ?_
 (first | refine Z0c rfl ?_ ?_ | refine Z08 rfl ?_ ?_) <;> intro hc8
 ·refine Z03 (Z00 (Zg (Zg (Zg (Z01 (Z02 ?_))))))
  refine Zk [6, 7, 8] ?_
  refine Z0i ?_
  refine Z0k ?_
  refine Z07 ?_
  refine Z12 results199 (.tmp rfl (.tmp rfl (.tmp rfl .nil))) rfl ?_
  refine ⟨_, rfl, ?_⟩
  have H94 := St.frontL (l := [_, _, _, _, _, _, _, _, _, _]) H82
  simp only [Zca, Zna] at H94
  have H95 := St.frontL (l := [_, _, _, _, _, _, _, _, _, _]) H94
  simp only [Zca, Zna] at H95
  have H104 := St.del (.tail (.tail .head)) (St.del (.tail (.tail (.tail .head))) (St.del (.tail (.tail (.tail (.tail .head)))) (St.del (.tail (.tail (.tail (.tail (.tail .head))))) (St.del (.tail (.tail (.tail (.tail (.tail (.tail .head)))))) (St.del (.tail (.tail (.tail (.tail (.tail (.tail (.tail .head))))))) (St.del (.tail (.tail (.tail (.tail (.tail (.tail (.tail (.tail .head)))))))) (St.del (.tail (.tail (.tail (.tail (.tail (.tail (.tail (.tail (.tail .head))))))))) (St.del (.tail (.tail (.tail (.tail (.tail (.tail (.tail (.tail (.tail (.tail .head)))))))))) H95))))))))
  have e : tabF d ng t1 t2 = (0, false, 0) := by
   unfold tabF
   rw [if_neg ZO, if_pos]
   by_cases h : t1.1 = t2.1
   ·left
    rw [h] at hcst1
    omega
   exact .inr h
  have hT := TabR.ends (ng := ng) (more := more) hk hnw hin ht1 ht2
  rw [e] at hT
  exact ⟨0, false, 0, L', rfl, hT, by unfold cacT; rw [if_pos ⟨by rw [hk]; rfl, hnw⟩]; exact hQ, H104.transS⟩
 refine Z0a ?_
 refine Z0F ?_
 refine Z02 ?_
 refine Zk [6] ?_
 refine Z03 (Z00 (Zm (Zg (Zg (Zg (Z01 (Z02 ?_)))))))
 refine Zk [6, 7, 8] ?_
 refine Z0i ?_
 refine Z12 results199 (.tmp rfl (.tmp rfl (.tmp rfl .nil))) rfl ?_
 refine ⟨_, rfl, ?_⟩
 have H105 := St.frontL (l := [_, _, _, _, _, _, _, _, _, _]) H82
 simp only [Zca, Zna] at H105
 have H106 := St.frontL (l := [_, _, _, _, _, _, _, _, _, _]) H105
 simp only [Zca, Zna] at H106
 have H115 := St.del (.tail (.tail .head)) (St.del (.tail (.tail (.tail .head))) (St.del (.tail (.tail (.tail (.tail .head)))) (St.del (.tail (.tail (.tail (.tail (.tail .head))))) (St.del (.tail (.tail (.tail (.tail (.tail (.tail .head)))))) (St.del (.tail (.tail (.tail (.tail (.tail (.tail (.tail .head))))))) (St.del (.tail (.tail (.tail (.tail (.tail (.tail (.tail (.tail .head)))))))) (St.del (.tail (.tail (.tail (.tail (.tail (.tail (.tail (.tail (.tail .head))))))))) (St.del (.tail (.tail (.tail (.tail (.tail (.tail (.tail (.tail (.tail (.tail .head)))))))))) H106))))))))
 have hb1 : r1.1 = r2.1 := Classical.not_not.1 (fun h => hc8 (.inr h))
 have he1 : r1.2.2 = r2.2.2 := Classical.not_not.1 (fun h => hc8 (.inl h))
 have hz : t1.2.2 = 0 ∧ t2.2.2 = 0 := by omega
 have h1 : r1.1 = sgF d ng t1.1 := by omega
 have h2 : r2.1 = sgF d ng t2.1 := by omega
 have h3 : t1.1 = t2.1 := sgF_inj (h1.symm.trans (hb1.trans h2))
 have e : tabF d ng t1 t2 = (r1.1, true, 0) := by
  unfold tabF
  rw [if_neg ZO, if_neg (fun h => h.elim (fun h => h ZO) (fun h => h h3)), h1]
  rfl
 have hT := TabR.ends (ng := ng) (more := more) hk hnw hin ht1 ht2
 rw [e] at hT
 exact ⟨r1.1, true, 0, L', rfl, hT, by unfold cacT; rw [if_pos ⟨by rw [hk]; rfl, hnw⟩]; exact hQ, H115.transS⟩
section
variable {P : Program} {N : Nat} {ρ : Env} {w w0 : World} {ops : Array Oper} {rest : List Oper} {d : Nat} {ty : TypeId} {pos : String} {af : Array Edge} {g : Option (Nat × Bool)} {B : Nat} {M : Nat → Prop} {σ σ' : List As}
theorem l_lit43 {Q : Post} {t e : TypeId} {x0 x1 x2 x3 : Operand} {a0 a1 a2 b0 b1 b2 c0 c1 c2 d0 d1 d2 z0 z1 z2 : Value} {bytes : Nat} (hw : St w0 B M σ w) (hg : Z0t ops ρ g = true) (hN : Nat.blt d N = true) (hT : P.underlying t = some (.slice e)) (hi : (P.info? e).map (fun i => (i.zero, i.size, i.bytes)) = some (some (.agg #[z0, z1, z2]), 3, bytes))
  (hz : (Value.agg #[z0, z1, z2]).cells = #[z0, z1, z2]) (hx0 : Z0g ρ x0 = some (.agg #[a0, a1, a2])) (hx1 : Z0g ρ x1 = some (.agg #[b0, b1, b2])) (hx2 : Z0g ρ x2 = some (.agg #[c0, c1, c2])) (hx3 : Z0g ρ x3 = some (.agg #[d0, d1, d2]))
  (n : ∀ b w', St w0 B M (As.blk b e [a0, a1, a2, b0, b1, b2, c0, c1, c2, d0, d1, d2] :: σ) w' → RunL P N ops ⟨false, Q⟩ rest ((d, .slice (some ⟨b, 0, none⟩) 4 4) :: ρ) w') : RunL P N ops ⟨false, Q⟩ (⟨some d, .buildSlice t 4 #[(0, x0), (1, x1), (2, x2), (3, x3)], ty, pos, af, g⟩ :: rest) ρ w := by
 obtain ⟨i, hi, h2, h3, h4⟩ := info_parts hi
 refine Z2k (fun h => by cases h) hg rfl hN (fun a ha => ?_) (n w.heap.size (w.alloc (.cells #[a0, a1, a2, b0, b1, b2, c0, c1, c2, d0, d1, d2] e)) (hw.new _ _ (heap_alloc_new w _) fun k hk => hk))
 have hr : (Instr.buildSlice t 4 #[(0, .agg #[a0, a1, a2]), (1, .agg #[b0, b1, b2]), (2, .agg #[c0, c1, c2]), (3, .agg #[d0, d1, d2])]).run P w = .ok (.slice (some ⟨w.heap.size, 0, none⟩) 4 4) (w.alloc (.cells #[a0, a1, a2, b0, b1, b2, c0, c1, c2, d0, d1, d2] e)) := by
  simp [Instr.buildSlice, run_underlying hT, sizeOf, typeInfo, hi, h2, h3, zeroValue, hz, Instr.fill, Value.cells, newRow, Array.range, List.range]
  generalize i.size = m at h3 ⊢
  subst h3
  refine congrArg (fun z => w.alloc (Obj.cells z e)) (Array.ext (by simp) fun i h1 h2 => ?_)
  have : i = 0 ∨ i = 1 ∨ i = 2 ∨ i = 3 ∨ i = 4 ∨ i = 5 ∨ i = 6 ∨ i = 7 ∨ i = 8 ∨ i = 9 ∨ i = 10 ∨ i = 11 := by simp at h2; omega
  rcases this with rfl | rfl | rfl | rfl | rfl | rfl | rfl | rfl | rfl | rfl | rfl | rfl <;> simp
 simp only [execOp]
 simp [ha.eval hx0, ha.eval hx1, ha.eval hx2, ha.eval hx3, hr]
def VCall (P : Program) (fv : Value) (vals : List Value) (w : World) (R : Value → World → Prop) : Prop := ∃ f fn c, fv = .func (.func f) #[] #[] ∧ P.funcs[f]? = some fn ∧ (fn.name == "runtime.NumGoroutine") = false ∧ fn.body = some c ∧ Z0f P f vals w R
theorem l_callx {Q : Post} {x : Operand} {fv : Value} {args : List Operand} {vals : List Value} {ats : Array TypeId} {R : Value → World → Prop} (hg : Z0t ops ρ g = true) (hN : Nat.blt d N = true) (hx : Z0g ρ x = some fv) (hv : Z1f ρ args vals) (h : VCall P fv vals w R)
  (n : ∀ v w', R v w' → RunL P N ops ⟨false, Q⟩ rest ((d, v) :: ρ) w') : RunL P N ops ⟨false, Q⟩ (⟨some d, .call ⟨.value x, args.toArray, ats⟩, ty, pos, af, g⟩ :: rest) ρ w := by
 obtain ⟨f, fn, c, rfl, hf, hn, hb, hc⟩ := h
 exact Z3g (caps := []) hg hN hx hf hn hb hv (by rw [List.append_nil]; exact hc) n
end
def mayV (i : Nat) : Value := if i = 0 then .func (.func 138) #[] #[] else if i = 1 then .func (.func 139) #[] #[] else if i = 2 then .func (.func 140) #[] #[] else .func (.func 200) #[] #[]
def goesV (i : Nat) : Value := if i = 0 then .func (.func 196) #[] #[] else if i = 1 then .func (.func 197) #[] #[] else if i = 2 then .func (.func 198) #[] #[] else .func (.func 201) #[] #[]
def rdL : List (List Value) := [[.int .i64 1, .func (.func 138) #[] #[], .func (.func 196) #[] #[]], [.int .i64 2, .func (.func 139) #[] #[], .func (.func 197) #[] #[]], [.int .i64 3, .func (.func 140) #[] #[], .func (.func 198) #[] #[]], [.int .i64 4, .func (.func 200) #[] #[], .func (.func 201) #[] #[]]]
theorem rdL_at {i : Nat} (h : i < 4) : rdL[i]? = some [.int .i64 ((i : Int) + 1), mayV i, goesV i] := by
 rcases (show i = 0 ∨ i = 1 ∨ i = 2 ∨ i = 3 by omega) with rfl | rfl | rfl | rfl <;> rfl
theorem rdL_rows : Z1g 3 rdL := fun r hr => by
 simp only [rdL, List.mem_cons, List.not_mem_nil, or_false] at hr
 rcases hr with rfl | rfl | rfl | rfl <;> exact ⟨rfl, by simp [Value.oneCell']⟩
theorem mayV_one (i : Nat) : (mayV i).oneCell' = true := by unfold mayV; (repeat' split) <;> rfl
theorem goesV_one (i : Nat) : (goesV i).oneCell' = true := by unfold goesV; (repeat' split) <;> rfl
theorem roadsP  (w : World) :
  Z0f P 150 [] w fun r w' => ∃ b, r = .slice (some ⟨b, 0, none⟩) 4 4 ∧ Grow w w' [As.blk b 221 [.int .i64 1, .func (.func 138) #[] #[], .func (.func 196) #[] #[], .int .i64 2, .func (.func 139) #[] #[], .func (.func 197) #[] #[], .int .i64 3, .func (.func 140) #[] #[], .func (.func 198) #[] #[], .int .i64 4, .func (.func 200) #[] #[], .func (.func 201) #[] #[]]] := by
 refine Z0o func150 rfl ntmps150 rfl ?_
 have H0 := St.start w
 refine Z03 (Z00 (Zg (Z01 (Z02 ?_))))
 refine Zk [] ?_
 refine Z03 (Z00 ?_)
 refine Z16 rfl rfl pl221 ta221 (.one rfl rfl ZR .zero (.one rfl rfl ZR (.succ .zero) (.one rfl rfl ZR (.succ (.succ .zero)) .nil))) ?_
 refine Z16 rfl rfl pl221 ta221 (.one rfl rfl ZR .zero (.one rfl rfl ZR (.succ .zero) (.one rfl rfl ZR (.succ (.succ .zero)) .nil))) ?_
 refine Z16 rfl rfl pl221 ta221 (.one rfl rfl ZR .zero (.one rfl rfl ZR (.succ .zero) (.one rfl rfl ZR (.succ (.succ .zero)) .nil))) ?_
 refine Z16 rfl rfl pl221 ta221 (.one rfl rfl ZR .zero (.one rfl rfl ZR (.succ .zero) (.one rfl rfl ZR (.succ (.succ .zero)) .nil))) ?_
 refine l_lit43 H0 rfl rfl underlying217 ti221 rfl rfl rfl rfl rfl (fun bl w1 H1 => ?_)
 refine Zg (Z01 (Z02 ?_))
 refine Zk [0] ?_
 refine Z0i ?_
 refine Z0e results150 rfl ?_
 refine ⟨_, rfl, ?_⟩
 exact ⟨bl, rfl, H1.grows⟩
theorem roads2P (cp : Option Addr) (A : Option Addr) (tl tc : Nat) (k wd man x : Int) (ng more : Bool) (w : World) :
  Z0f P 200 [.agg #[.pointer cp, .int .i64 k, .slice A tl tc, .bool ng, .int .i64 wd, .int .u64 man, .int .i64 x, .bool more]] w fun r w' => r = .bool true ∧ Grow w w' [] := by
 refine Z0o func200 rfl ntmps200 rfl ?_
 have H0 := St.start w
 refine Z03 (Z00 ?_)
 refine Z57 H0 rfl rfl rfl (fun b0_0 w1 H1 => ?_)
 refine Zg (Z01 (Z02 ?_))
 refine Zk [] ?_
 refine Z03 (Z00 (Zg (Z01 (Z02 ?_))))
 refine Z0i ?_
 refine Z0e results200 rfl ?_
 refine ⟨_, rfl, ?_⟩
 have H2 := St.del .head H1
 exact ⟨rfl, H2.grows⟩
theorem roads3P (cp : Option Addr) (wd man x0 : Int) (A : Option Addr) (tc : Nat) (t : L8) (hL : t.length ≤ 1099511627776) (k : Int) (ng : Bool) (d : Kd) (hk : kd k = some d) (more : Bool) (L : L8) (q : Nat) (x : Int) (hN : NumX t man x0 more L q x) (w : World) (hv : IB w (.slice A t.length tc) t) :
  Z0f P 201 [.agg #[.pointer cp, .int .i64 k, .slice A t.length tc, .bool ng, .int .i64 wd, .int .u64 man, .int .i64 x0, .bool more]] w fun r w' => ∃ tt, fltT d (pv L) x tt ∧ r = .tuple #[.int .u64 (if tt.2.2 = 0 then sgF d ng tt.1 else 0), .bool true, .int .i64 (if tt.2.2 = 0 then 0 else 90)] ∧ Grow w w' [] := by
 refine Z0o func201 rfl ntmps201 rfl ?_
 have H0 := St.start w
 refine Z03 (Z00 ?_)
 refine Z57 H0 rfl rfl rfl (fun b0_0 w1 H1 => ?_)
 refine Zg (Zg (Zg (Z01 (Z02 ?_))))
 refine Zk [1] ?_
 refine Z03 (Z00 (Z09 Z60 rfl rfl rfl ?_))
 refine Z05 H1 mem0 rfl rfl underlying3 rfl rfl rfl ?_
 refine Z09 Z53 rfl rfl rfl (Z09 Z5Y rfl rfl rfl ?_)
 refine Z05 H1 mem0 rfl rfl underlying4 rfl rfl rfl ?_
 refine Z09 fo199_2 rfl rfl rfl ?_
 refine Z05 H1 mem0 rfl rfl underlying25 rfl rfl rfl ?_
 refine Zc func202 (exactPP A tc t hL k ng d hk man x0 more L q x hN w1 (H1.iarg hv)) ?_
 rintro _ w2 ⟨tt, htt, rfl, hG⟩
 have H2 := hG _ _ _ _ H1
 simp only [Zca, Zna] at H2
 refine Zm ?_
 refine Zx (Zx (Zg (Zg (Z01 (Z02 ?_)))))
 refine Zk [5, 6] ?_
 refine Z03 (Z00 (Zm (Zm (Zg (Zg (Zg (Z01 (Z02 ?_))))))))
 refine Zk [2, 3, 4] ?_
 refine Z0i ?_
 refine Z12 results201 (.tmp rfl (.tmp rfl (.tmp rfl .nil))) rfl ?_
 refine ⟨_, rfl, ?_⟩
 have H3 := St.del .head H2
 exact ⟨tt, htt, rfl, H3.grows⟩
theorem roads1P (b : Nat) (L : Cac) (hL : L.length = 41) (A : Option Addr) (tl tc : Nat) (k wd man x : Int) (ng more : Bool) (hman : 0 ≤ man ∧ man ≤ 18446744073709551615) (hxb : -9223372036854775808 ≤ x ∧ x ≤ 9223372036854775807) (w : World) (hS : Sep w.heap.size (fps (cacW b L)) w (cacW b L)) :
  Z0f P 198 [.agg #[.pointer (some ⟨b, 0, none⟩), .int .i64 k, .slice A tl tc, .bool ng, .int .i64 wd, .int .u64 man, .int .i64 x, .bool more]] w fun r w' => ∃ bb ok e L', r = .tuple #[.int .u64 bb, .bool ok, .int .i64 e] ∧ TabR k ng wd man x more bb ok e ∧ cacT k wd man x L L' ∧ Z1C w w' (cacW b L) (cacW b L') := by
 refine Z0o func198 rfl ntmps198 rfl ?_
 have H0 : St w w.heap.size (fps (cacW b L)) (cacW b L) w := St.startS hS
 refine Z03 (Z00 ?_)
 refine Z57 H0 rfl rfl rfl (fun b0_0 w1 H1 => ?_)
 refine Zg (Zg (Zg (Z01 (Z02 ?_))))
 refine Zk [1] ?_
 refine Z03 (Z00 (Z09 fo199_0 rfl rfl rfl ?_))
 refine Z05 H1 mem0 rfl rfl underlying49 rfl rfl rfl ?_
 refine Z09 Z60 rfl rfl rfl ?_
 refine Z05 H1 mem0 rfl rfl underlying3 rfl rfl rfl ?_
 refine Z09 Z53 rfl rfl rfl ?_
 refine Z1b H1 mem0 rfl rfl underlying174 rfl Z68 rfl (.drop (.drop (.drop (.take (.take (.take (.take (.take .nil)))))))) ?_
 have H2 := St.frontL (l := [_, _]) H1
 simp only [Zca, Zna] at H2
 have H3 := St.frontL (l := [_, _]) H2
 simp only [Zca, Zna] at H3
 refine Zc func199 (TableP b L hL k wd man x ng more hman hxb w1 (St.rows (τ := cacW b L) H3)) ?_
 rintro _ w4 ⟨bb, ok, e, L', rfl, hT, hC, hX⟩
 have H4 := hX _ _ _ _ H3
 simp only [cacW, List.cons_append, List.nil_append] at H4
 refine Zx (Zx (Zx (Zg (Zg (Zg (Z01 (Z02 ?_)))))))
 refine Zk [2, 3, 4] ?_
 refine Z0i ?_
 refine Z12 results198 (.tmp rfl (.tmp rfl (.tmp rfl .nil))) rfl ?_
 refine ⟨_, rfl, ?_⟩
 have H7 := St.del (.tail (.tail .head)) (St.front1 (St.front1 H4))
 exact ⟨bb, ok, e, L', rfl, hT, hC, H7.transS⟩
end Go.Proofs.YtgjgahmhoflgcaaGreatDoor.W
