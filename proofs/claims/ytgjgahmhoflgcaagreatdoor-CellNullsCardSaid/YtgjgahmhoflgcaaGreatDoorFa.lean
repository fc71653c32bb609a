/- walks of digit.Is, digit.Run, nat.trim and their like -/
import Derived.Test.YtgjgahmhoflgcaaGreatDoorMa
import Derived.Test.YtgjgahmhoflgcaaGreatDoorVx
set_option linter.unusedVariables false
set_option linter.unusedSimpArgs false
set_option maxRecDepth 10000
namespace Go.Proofs.YtgjgahmhoflgcaaGreatDoor.W
open Go.Vc Go.RowKit Tryz
def isD (b : UInt8) : Prop := 48 ≤ (b.toNat : Int) ∧ (b.toNat : Int) ≤ 57
instance (b : UInt8) : Decidable (isD b) := by unfold isD; infer_instance
def run : List UInt8 → Nat
 | [] => 0
 | b :: l => if isD b then run l + 1 else 0
theorem Z6y (l : List UInt8) : run l ≤ l.length := by
 induction l with
 | nil => simp [run]
 | cons b l ih => simp only [run, List.length_cons]; split <;> omega
theorem Z5n : ∀ (l : List UInt8) (j : Nat), j < run l → isD (l.getD j 0)
 | [], j, h => by simp [run] at h
 | b :: l, j, h => by
  simp only [run] at h
  split at h
  ·rename_i hb
   cases j with
   | zero => simpa using hb
   | succ j => simpa using Z5n l j ZO
  omega
theorem Z72 : ∀ (l : List UInt8), run l < l.length → ¬ isD (l.getD (run l) 0)
 | [], h => by simp at h
 | b :: l, h => by
  simp only [run] at h ⊢
  split
  ·rename_i hb
   rw [if_pos hb] at h
   simpa using Z72 l (by simpa using h)
  rename_i hb
  simpa using hb
theorem run_is (l : List UInt8) (n : Nat) (h1 : ∀ j, j < n → isD (l.getD j 0)) (h2 : n ≤ l.length) (h3 : n < l.length → ¬ isD (l.getD n 0)) : run l = n := by
 have a := Z6y l
 rcases Nat.lt_trichotomy (run l) n with h | h | h
 ·exact absurd (h1 _ h) (Z72 l ZO)
 ·exact h
 exact absurd (Z5n l n h) (h3 ZO)
theorem Z67 (b : UInt8) (w : World) :
  Z0f P 195 [.int .u8 (b.toNat : Int)] w fun r w' => r = .bool (decide (isD b)) ∧ w = w' := by
 refine Z0o func195 rfl ntmps195 rfl ?_
 refine Z03 (Z00 (Zg (Z01 (Z02 ?_))))
 refine Zk [0] ?_
 refine Z03 (Z00 (Zm ?_))
 refine Zh ?_
 refine Zm ?_
 apply Z47 2 [] rfl rfl (.cons rfl .nil) rfl rfl (fun _ => rfl) rfl rfl rfl
 ·intro hg1_3
  refine Zm ?_
  refine Zf ?_
  refine Z01 ?_
  exact Z0O rfl (.cons rfl (ZT hg1_3) .nil)
 refine Zg (Z01 (Z02 ?_))
 refine Zk [2] ?_
 refine Z0i ?_
 refine Z0e results195 rfl ?_
 refine ⟨_, rfl, ?_⟩
 exact ⟨by unfold isD; rfl, rfl⟩
theorem run_eqn (l : List UInt8) (a n : Nat) (ha : a ≤ l.length) (h1 : ∀ j, j < n → isD (l.getD (a + j) 0)) (h2 : a + n ≤ l.length) (h3 : a + n < l.length → ¬ isD (l.getD (a + n) 0)) : run (l.drop a) = n := by
 refine run_is _ _ (fun j hj => ?_) (by rw [List.length_drop]; omega) (fun h => ?_)
 ·have := h1 j hj
  simpa [List.getD, List.getElem?_drop] using this
 rw [List.length_drop] at h
 have := h3 ZO
 simpa [List.getD, List.getElem?_drop] using this
theorem run_drop_all (l : List UInt8) (a j : Nat) (h : j < run (l.drop a)) : isD (l.getD (a + j) 0) := by
 have := Z5n _ _ h
 simpa [List.getD, List.getElem?_drop] using this
abbrev U (l : List Int) : Prop := Rg 0 18446744073709551615 l
theorem U.dg {l : List Int} (h : U l) : Ma.Dg 18446744073709551616 l := fun x hx => by have := h x hx; omega
theorem U.of_dg {l : List Int} (h : Ma.Dg 18446744073709551616 l) : U l := fun x hx => by have := h x hx; omega
abbrev nv (l : List Int) : Int := Ma.vb 18446744073709551616 l
theorem U.nv_nonneg {l : List Int} (h : U l) : 0 ≤ nv l := Ma.vb_nonneg (by omega) h.dg
def len8 : List UInt8 := [0, 1, 2, 2, 3, 3, 3, 3, 4, 4, 4, 4, 4, 4, 4, 4, 5, 5, 5, 5, 5, 5, 5, 5, 5, 5, 5, 5, 5, 5, 5, 5] ++ List.replicate 32 6 ++ List.replicate 64 7 ++ List.replicate 128 8
theorem len8_eq : ∀ k : Fin 256, ((len8.getD k.val 0).toNat : Int) = Ma.blen (k.val : Int) := by decide +kernel
theorem len8_at {y : Int} (h : 0 ≤ y ∧ y ≤ 255) : ((len8.getD y.toNat 0).toNat : Int) = Ma.blen y := by
 obtain ⟨k, rfl⟩ := Int.eq_ofNat_of_zero_le h.1
 exact len8_eq ⟨k, by omega⟩
theorem Z4R {x d : Int} {k : Nat} (hd : d = 2 ^ k) (h : d ≤ x) : Ma.blen x = (k : Int) + Ma.blen (x / d) := by
 subst hd
 have hp := Ma.pow_pos (show (0 : Int) < 2 by omega) k
 have h1 : 0 < x / 2 ^ k := (Int.le_ediv_iff_mul_le hp).2 ZO
 have h2 := Int.emod_nonneg x (show (2 : Int) ^ k ≠ 0 by omega)
 have h3 := Int.emod_lt_of_pos x hp
 rw [← Ma.blen_shift h1 h2 h3]
 congr 1
 have := Int.emod_add_mul_ediv x (2 ^ k)
 omega
theorem len64 (x : Int) (hx : 0 ≤ x ∧ x ≤ 18446744073709551615) (w : World) :
  Z0f P 275 [.int .u64 x] w fun r w' => r = .int .i64 (Ma.blen x) ∧ w = w' := by
 refine Z0o func275 rfl ntmps275 rfl ?_
 refine Z03 (Z00 (Zg (Z01 (Z02 ?_))))
 refine Z1q (ι := Int × Int) (fun (z0 : Int × Int) (w' : World) => match z0 with | ⟨y, n⟩ => w = w' ∧ 0 ≤ y ∧ y < 4294967296 ∧ 0 ≤ n ∧ n ≤ 32 ∧ Ma.blen x = n + Ma.blen y) (fun (z0 : Int × Int) => match z0 with | ⟨y, n⟩ => [(0, .int .u64 y), (2, .int .i64 n)]) [] .nil ?_ ?_
 ·refine Z03 (Z00 (Zm ?_))
  refine Zh ?_
  refine Z01 (Z02 ?_)
  refine Zk [0, 2, 4] ?_
  (first | refine Z0c rfl ?_ ?_ | refine Z08 rfl ?_ ?_) <;> intro hc0
  ·refine Z03 (Z00 (Zm ?_))
   refine Z3e rfl rfl rfl rfl ZO (Z2b (d := 4294967296) (by decide) (by decide)) ?_
   refine Zg (Z01 (Z02 ?_))
   refine Zk [0] ?_
   refine Z00 (Zg (Z01 ?_))
   refine Z0w ((x / 4294967296, 32)) ?_ .nil ?_
   ·have := Z4R (k := 32) (by decide) hc0
    exact ⟨rfl, ZO, ZO, ZO, ZO, this⟩
   exact (.cons rfl ZN (.cons rfl ZN .nil))
  refine Z0a ?_
  refine Z0w ((x, 0)) ?_ .nil ?_
  ·exact ⟨rfl, ZO, ZO, ZO, ZO, (Int.zero_add _).symm⟩
  exact (.cons rfl ZN (.cons rfl ZN .nil))
 rintro ⟨y, n⟩ _ ⟨rfl, hy0, hy1, hn0, hn1, hbl⟩
 show RunC P _ _ _ (_ :: _) _
 refine Z1q (ι := Int × Int) (fun (z0 : Int × Int) (w' : World) => match z0 with | ⟨y, n⟩ => w = w' ∧ 0 ≤ y ∧ y < 65536 ∧ 0 ≤ n ∧ n ≤ 48 ∧ Ma.blen x = n + Ma.blen y) (fun (z0 : Int × Int) => match z0 with | ⟨y, n⟩ => [(0, .int .u64 y), (2, .int .i64 n)]) [] .nil ?_ ?_
 ·refine Z03 (Z00 (Zm ?_))
  refine Zh ?_
  refine Z01 (Z02 ?_)
  refine Zk [0, 2, 8] ?_
  (first | refine Z0c rfl ?_ ?_ | refine Z08 rfl ?_ ?_) <;> intro hc1
  ·refine Z03 (Z00 (Zm ?_))
   refine Z3e rfl rfl rfl rfl ZO (Z2b (d := 65536) (by decide) (by decide)) ?_
   refine Zg (Z01 (Z02 ?_))
   refine Zk [0, 2] ?_
   refine Z00 (Zm ?_)
   refine Z0y rfl rfl rfl rfl (Z0l ZO) ?_
   refine Zg (Z01 ?_)
   refine Z0w ((y / 65536, n + 16)) ?_ .nil ?_
   ·have := Z4R (k := 16) (by decide) hc1
    exact ⟨rfl, ZO, ZO, ZO, ZO, ZO⟩
   exact (.cons rfl ZN (.cons rfl ZN .nil))
  refine Z0a ?_
  refine Z0w ((y, n)) ?_ .nil ?_
  ·exact ⟨rfl, ZO, ZO, ZO, ZO, ZO⟩
  exact (.cons rfl ZN (.cons rfl ZN .nil))
 rintro ⟨y, n⟩ _ ⟨rfl, hy0, hy1, hn0, hn1, hbl⟩
 show RunC P _ _ _ (_ :: _) _
 refine Z1q (ι := Int × Int) (fun (z0 : Int × Int) (w' : World) => match z0 with | ⟨y, n⟩ => w = w' ∧ 0 ≤ y ∧ y < 256 ∧ 0 ≤ n ∧ n ≤ 56 ∧ Ma.blen x = n + Ma.blen y) (fun (z0 : Int × Int) => match z0 with | ⟨y, n⟩ => [(0, .int .u64 y), (2, .int .i64 n)]) [] .nil ?_ ?_
 ·refine Z03 (Z00 (Zm ?_))
  refine Zh ?_
  refine Z01 (Z02 ?_)
  refine Zk [0, 2, 14] ?_
  (first | refine Z0c rfl ?_ ?_ | refine Z08 rfl ?_ ?_) <;> intro hc2
  ·refine Z03 (Z00 (Zm ?_))
   refine Z3e rfl rfl rfl rfl ZO (Z2b (d := 256) (by decide) (by decide)) ?_
   refine Zg (Z01 (Z02 ?_))
   refine Zk [0, 2] ?_
   refine Z00 (Zm ?_)
   refine Z0y rfl rfl rfl rfl (Z0l ZO) ?_
   refine Zg (Z01 ?_)
   refine Z0w ((y / 256, n + 8)) ?_ .nil ?_
   ·have := Z4R (k := 8) (by decide) hc2
    exact ⟨rfl, ZO, ZO, ZO, ZO, ZO⟩
   exact (.cons rfl ZN (.cons rfl ZN .nil))
  refine Z0a ?_
  refine Z0w ((y, n)) ?_ .nil ?_
  ·exact ⟨rfl, ZO, ZO, ZO, ZO, ZO⟩
  exact (.cons rfl ZN (.cons rfl ZN .nil))
 rintro ⟨y, n⟩ _ ⟨rfl, hy0, hy1, hn0, hn1, hbl⟩
 show RunC P _ _ _ (_ :: _) _
 refine Z03 (Z00 (Zm (Zm ?_)))
 refine Z5a rfl rfl underlying24 underlying5 rfl (w_u8 ZO) ?_
 refine Z6m (j := y.toNat) rfl rfl underlying9 rfl rfl ZO (Nat.lt_of_lt_of_eq (show y.toNat < 256 by omega) ZK) (fun hb10_3 => ?_)
 have h8 := len8_at (y := y) ZO
 have hyy : 0 ≤ Ma.blen y := Ma.blen_nonneg y
 have hy9 : Ma.blen y ≤ 8 := (Ma.blen_le_iff ZO 8).2 ZO
 change RunL P _ _ _ _ ((22, .int .u8 ((len8.getD y.toNat 0).toNat : Int)) :: _) _
 rw [h8]
 refine Z5a rfl rfl underlying5 underlying3 rfl (Z0l ZO) ?_
 refine Z0y rfl rfl rfl rfl (Z0l ZO) ?_
 refine Zg (Z01 (Z02 ?_))
 refine Zk [2] ?_
 refine Z0i ?_
 refine Z0e results275 rfl ?_
 refine ⟨_, rfl, ?_⟩
 exact ⟨by rw [hbl], rfl⟩
theorem Z23 {a b : Int} {x y : Int} (ha : 0 ≤ a ∧ a < x) (hb : 0 ≤ b ∧ b < y) : 0 ≤ a * b ∧ a * b ≤ (x - 1) * (y - 1) :=
 ⟨Int.mul_nonneg ha.1 hb.1, Int.mul_le_mul (by omega) (by omega) hb.1 (by omega)⟩
theorem mul64_hi {x y x0 x1 y0 y1 : Int} (ex : x = x0 + 4294967296 * x1) (ey : y = y0 + 4294967296 * y1) (hx0 : 0 ≤ x0 ∧ x0 < 4294967296) (hx1 : 0 ≤ x1 ∧ x1 < 4294967296) (hy0 : 0 ≤ y0 ∧ y0 < 4294967296) (hy1 : 0 ≤ y1 ∧ y1 < 4294967296) :
  x1 * y1 + (x1 * y0 + x0 * y0 / 4294967296) / 4294967296 + ((x1 * y0 + x0 * y0 / 4294967296) % 4294967296 + x0 * y1) / 4294967296 = x * y / 18446744073709551616 := by
 have e : x * y = x0 * y0 + 4294967296 * (x1 * y0) + 4294967296 * (x0 * y1) + 18446744073709551616 * (x1 * y1) := by
  subst ex ey
  rw [Int.add_mul, Int.mul_add, Int.mul_add, Int.mul_assoc, Int.mul_assoc, Int.mul_left_comm x0, Int.mul_left_comm x1]
  omega
 have p00 := Z23 hx0 hy0
 have p10 := Z23 hx1 hy0
 have p01 := Z23 hx0 hy1
 have p11 := Z23 hx1 hy1
 rw [e]
 generalize x0 * y0 = a at *
 generalize x1 * y0 = b at *
 generalize x0 * y1 = c at *
 generalize x1 * y1 = d at *
 omega
theorem mul64 (x y : Int) (hx : 0 ≤ x ∧ x ≤ 18446744073709551615) (hy : 0 ≤ y ∧ y ≤ 18446744073709551615) (w : World) :
  Z0f P 269 [.int .u64 x, .int .u64 y] w fun r w' => r = .tuple #[.int .u64 (x * y / 18446744073709551616), .int .u64 (x * y % 18446744073709551616)] ∧ w = w' := by
 refine Z0o func269 rfl ntmps269 rfl ?_
 have p00 := Z23 (a := x % 4294967296) (b := y % 4294967296) (x := 4294967296) (y := 4294967296) ZO ZO
 have p10 := Z23 (a := x / 4294967296) (b := y % 4294967296) (x := 4294967296) (y := 4294967296) ZO ZO
 have p01 := Z23 (a := x % 4294967296) (b := y / 4294967296) (x := 4294967296) (y := 4294967296) ZO ZO
 have p11 := Z23 (a := x / 4294967296) (b := y / 4294967296) (x := 4294967296) (y := 4294967296) ZO ZO
 have hhi := mul64_hi (x := x) (y := y) (x0 := x % 4294967296) (x1 := x / 4294967296) (y0 := y % 4294967296) (y1 := y / 4294967296) ZO ZO ZO ZO ZO ZO
 have hlo := Int.mul_nonneg hx.1 hy.1
 have hul := Z23 (a := x) (b := y) (x := 18446744073709551616) (y := 18446744073709551616) ZO ZO
 refine Z03 (Z00 (Zg (Zg (Z01 (Z02 ?_)))))
 refine Zk [0, 1] ?_
 refine Z03 (Z00 (Zm ?_))
 refine Z1i rfl rfl rfl rfl rfl (Z3r 32 (d := 4294967296) ZO ZO (by decide) (by decide)) ?_
 refine Zg (Z01 (Z02 ?_))
 refine Zk [0, 1, 6] ?_
 refine Z03 (Z00 (Zm ?_))
 refine Z3e rfl rfl rfl rfl ZO (Z2b (d := 4294967296) (by decide) (by decide)) ?_
 refine Zg (Z01 (Z02 ?_))
 refine Zk [0, 1, 6, 7] ?_
 refine Z03 (Z00 (Zm ?_))
 refine Z1i rfl rfl rfl rfl rfl (Z3r 32 (d := 4294967296) ZO ZO (by decide) (by decide)) ?_
 refine Zg (Z01 (Z02 ?_))
 refine Zk [0, 1, 6, 7, 8] ?_
 refine Z03 (Z00 (Zm ?_))
 refine Z3e rfl rfl rfl rfl ZO (Z2b (d := 4294967296) (by decide) (by decide)) ?_
 refine Zg (Z01 (Z02 ?_))
 refine Zk [0, 1, 6, 7, 8, 9] ?_
 refine Z03 (Z00 (Zm (Zm ?_)))
 refine Z20 rfl rfl rfl rfl (Z1p ZO) ?_
 refine Zg (Z01 (Z02 ?_))
 refine Zk [0, 1, 6, 7, 8, 9, 10] ?_
 refine Z03 (Z00 (Zm (Zm ?_)))
 refine Z20 rfl rfl rfl rfl (Z1p ZO) ?_
 refine Zm ?_
 refine Z3e rfl rfl rfl rfl ZO (Z2b (d := 4294967296) (by decide) (by decide)) ?_
 refine Z0y rfl rfl rfl rfl (Z1p ZO) ?_
 refine Zg (Z01 (Z02 ?_))
 refine Zk [0, 1, 6, 7, 9, 11] ?_
 refine Z03 (Z00 (Zm ?_))
 refine Z1i rfl rfl rfl rfl rfl (Z3r 32 (d := 4294967296) ZO ZO (by decide) (by decide)) ?_
 refine Zg (Z01 (Z02 ?_))
 refine Zk [0, 1, 6, 7, 9, 11, 12] ?_
 refine Z03 (Z00 (Zm ?_))
 refine Z3e rfl rfl rfl rfl ZO (Z2b (d := 4294967296) (by decide) (by decide)) ?_
 refine Zg (Z01 (Z02 ?_))
 refine Zk [0, 1, 6, 7, 9, 12, 13] ?_
 refine Z03 (Z00 (Zm (Zm (Zm ?_))))
 refine Z20 rfl rfl rfl rfl (Z1p ZO) ?_
 refine Z0y rfl rfl rfl rfl (Z1p ZO) ?_
 refine Zg (Z01 (Z02 ?_))
 refine Zk [0, 1, 7, 9, 12, 13] ?_
 refine Z03 (Z00 (Zm (Zm ?_)))
 refine Z20 rfl rfl rfl rfl (Z1p ZO) ?_
 refine Zm ?_
 refine Z0y rfl rfl rfl rfl (Z1p ZO) ?_
 refine Zm ?_
 refine Z3e rfl rfl rfl rfl ZO (Z2b (d := 4294967296) (by decide) (by decide)) ?_
 refine Z0y rfl rfl rfl rfl (Z1p ZO) ?_
 refine Zg (Z01 (Z02 ?_))
 refine Zk [0, 1, 4] ?_
 refine Z03 (Z00 (Zm (Zm ?_)))
 refine Z20 rfl rfl rfl rfl (Z2H _) ?_
 refine Zg (Z01 (Z02 ?_))
 refine Zk [4, 5] ?_
 refine Z0i ?_
 refine Z0P results269 rfl rfl ?_
 refine ⟨_, rfl, ?_⟩
 refine ⟨?_, rfl⟩
 rw [← hhi]
theorem trim (A : Option Addr) (c : Nat) (l : List Int) (hU : U l) (hL : l.length ≤ 17592186044416) (w : World) (hv : IV w (.slice A (ints .u64 l).length c) (ints .u64 l)) :
  Z0f P 264 [.slice A (ints .u64 l).length c] w fun r w' => r = .slice A (Ma.tr l).length (Ma.tr l).length ∧ w = w' := by
 refine Z0o func264 rfl ntmps264 rfl ?_
 refine Z03 (Z00 (Zg (Z01 (Z02 ?_))))
 refine Zk [0] ?_
 refine Z03 (Z00 (Zm ?_))
 refine Z0u rfl rfl underlying155 rfl (by first | exact hv | assumption) ?_
 refine Zg (Z01 (Z02 ?_))
 refine Zk [0, 3] ?_
 refine Z03 (Z0d ?_)
 refine Z0z (ι := Nat) (fun (k : Nat) => k) (fun (k : Nat) (w' : World) => w = w' ∧ k ≤ l.length ∧ ∀ j, k ≤ j → l.getD j 0 = 0) (fun (k : Nat) => [(3, .int .i64 (k : Int))]) [0] (l.length) ?_ (.cons rfl .nil) ?_ ?_
 ·exact ⟨rfl, Nat.le_refl _, fun j hj => by simp [List.getD, hj]⟩
 ·exact (.cons rfl ZN .nil)
 rintro k _ ⟨rfl, hk, hz⟩
 show RunC P _ _ _ (_ :: _) _
 refine Z03 (Z03 (Z00 (Zm ?_)))
 refine Zw ?_
 refine Zm ?_
 apply Z47 6 [0, 3] rfl rfl (.cons rfl (.cons rfl (.cons rfl .nil))) rfl rfl (fun _ => rfl) rfl rfl rfl
 ·intro hg2_3
  refine Zm (Zm ?_)
  refine Z0W rfl rfl rfl rfl (Z0l ZO) ?_
  refine Z0T (j := k - 1) rfl rfl rfl rfl underlying155 tz24 underlying24 rfl rfl (by first | exact hv | assumption) ZA rfl ZO ZI (fun hb2_6 => ?_)
  refine Ze ?_
  refine Z01 ?_
  exact Z0O rfl (.cons rfl (ZT hg2_3) (.cons rfl rfl (.cons rfl rfl .nil)))
 refine Z01 (Z02 ?_)
 refine Zk [0, 3, 15] ?_
 (first | refine Z0c rfl ?_ ?_ | refine Z08 rfl ?_ ?_) <;> intro hc0
 ·refine Z0a (Z02 ?_)
  refine Zk [0, 3] ?_
  refine Z0d (Z00 (Zm ?_))
  refine Z0W rfl rfl rfl rfl (Z0l ZO) ?_
  refine Zg (Z01 ?_)
  refine Z0F ?_
  refine Z0p (i := (k)) (k - 1) ?_ ?_ (.cons rfl .nil) ?_
  ·first | omega | (simp; omega)
  ·refine ⟨rfl, ZO, fun j hj => ?_⟩
   rcases Nat.lt_or_ge j k with h | h
   ·obtain rfl : j = k - 1 := by omega
    exact hc0.2
   exact hz j h
  exact (.cons rfl ZN .nil)
 refine Z0H ?_
 refine Z06 ?_
 refine Z06 ?_
 refine Z0h ?_
 refine Z02 ?_
 refine Zk [0, 3] ?_
 refine Z03 (Z00 (Zm (Zm (Zm ?_))))
 refine v_trunc (h := k) rfl rfl underlying155 tz24 rfl rfl rfl (by first | exact hv | assumption) ZP ZP ZI (fun A4_3 c4_3 h4_3 => ?_)
 injection h4_3 with e1 e2 e3
 subst e1
 refine Zg (Z01 (Z02 ?_))
 refine Zk [2] ?_
 refine Z0i ?_
 refine Z0e results264 rfl ?_
 refine ⟨_, rfl, ?_⟩
 refine ⟨?_, rfl⟩
 rw [Ma.tr_len_unique hk hz (fun h e => hc0 ⟨ZO, e⟩)]
theorem Z21 {w : World} {A : Option Addr} {c : Nat} {l : List Int} (hv : IV w (.slice A (ints .u64 l).length c) (ints .u64 l)) : IV w (.slice A (Ma.tr l).length (Ma.tr l).length) (ints .u64 (Ma.tr l)) := by
 have h := Ma.tr_take l
 have := hv.trunc (h := (Ma.tr l).length) (by simpa using h.2.1)
 rwa [← List.map_take, ← h.1] at this
theorem trim_st {w0 w : World} {B : Nat} {M : Nat → Prop} {σ σ' : List As} {E : TypeId} {A : Option Addr} {c : Nat} {l : List Int} (u : Upd σ (As.ri E .u64 (.slice A (ints .u64 l).length c) l) (As.ri E .u64 (.slice A (Ma.tr l).length (Ma.tr l).length) (Ma.tr l)) σ') (hw : St w0 B M σ w) : St w0 B M σ' w := by
 have h := Ma.tr_take l
 have e : ints .u64 (Ma.tr l) = (ints .u64 l).take (Ma.tr l).length := by rw [← List.map_take, ← h.1]
 have hl : (Ma.tr l).length ≤ (ints .u64 l).length := by simpa using h.2.1
 unfold As.ri at u
 rw [e] at u
 exact hw.trunc u hl
theorem Tr.top {l : List Int} (h : U l) (ht : Ma.Tr l) (hn : 0 < l.length) : 0 < l.getD (l.length - 1) 0 := by
 have h1 := h.get (j := l.length - 1) ZO
 have : l.getD (l.length - 1) 0 ≠ 0 := by
  intro e
  have := Ma.tr_len_unique (l := l) (n := l.length) (Nat.le_refl _) (fun j hj => by simp [List.getD, hj])
  induction l with
  | nil => simp at hn
  | cons x m ih =>
   cases m with
   | nil => exact ht.1 rfl (by simpa using e)
   | cons y m =>
    have h' : U (y :: m) := fun z hz => h z (.tail _ hz)
    exact ih h' ht.2 (by simp) (h'.get (by simp)) (by simpa using e) (fun _ => by rw [Ma.Tr.tr_eq ht.2])
 omega
theorem blen_words {l : List Int} (h : U l) (ht : Ma.Tr l) (hn : 0 < l.length) : Ma.blen (nv l) = 64 * ((l.length : Int) - 1) + Ma.blen (l.getD (l.length - 1) 0) := by
 have hp := Tr.top h ht hn
 have hlt : l.length - 1 < l.length := by omega
 have e : l = l.take (l.length - 1) ++ [l.getD (l.length - 1) 0] := by
  have : l.getD (l.length - 1) 0 = l[l.length - 1] := by simp [List.getD, hlt]
  have hd : l.drop (l.length - 1) = [l[l.length - 1]] := by
   rw [List.drop_eq_getElem_cons hlt, List.drop_eq_nil_of_le ZO]
  rw [this, ← hd, List.take_append_drop]
 have hv := Ma.vb_append 18446744073709551616 (l.take (l.length - 1)) [l.getD (l.length - 1) 0]
 rw [← e] at hv
 have tl : (l.take (l.length - 1)).length = l.length - 1 := by rw [List.length_take]; omega
 rw [tl] at hv
 simp only [Ma.vb, Int.mul_zero, Int.add_zero] at hv
 have b1 := Ma.vb_lt (show (0 : Int) < 18446744073709551616 by omega) (h.dg.take (l.length - 1))
 have b2 := Ma.vb_nonneg (show (0 : Int) < 18446744073709551616 by omega) (h.dg.take (l.length - 1))
 rw [tl] at b1
 have ep : (18446744073709551616 : Int) ^ (l.length - 1) = 2 ^ (64 * (l.length - 1)) := by
  rw [Int.pow_mul]; rfl
 rw [ep] at hv b1
 show Ma.blen (Ma.vb 18446744073709551616 l) = _
 rw [hv, Ma.blen_shift hp b2 b1]
 omega
theorem lenN (A : Option Addr) (c : Nat) (l : List Int) (hU : U l) (hL : l.length ≤ 17592186044416) (w : World) (hv : IV w (.slice A (ints .u64 l).length c) (ints .u64 l)) :
  Z0f P 250 [.slice A (ints .u64 l).length c] w fun r w' => r = .int .i64 (Ma.blen (nv l)) ∧ w = w' := by
 refine Z0o func250 rfl ntmps250 rfl ?_
 have hv2 := Z21 hv
 have ht := Ma.tr_take l
 have hU2 : U (Ma.tr l) := U.of_dg hU.dg.tr
 have htv : nv (Ma.tr l) = nv l := Ma.tr_val _ l
 refine Z03 (Z00 (Zg (Z01 (Z02 ?_))))
 refine Zk [0] ?_
 refine Z03 (Z00 (Zm ?_))
 refine Zp func264 (trim A c l hU hL w hv) ?_
 refine Zg (Z01 (Z02 ?_))
 refine Zk [0] ?_
 refine Z03 (Z03 (Z00 (Zm ?_)))
 refine Z0u rfl rfl underlying155 rfl (by first | exact hv2 | exact hv | assumption) ?_
 refine Ze ?_
 refine Z01 (Z02 ?_)
 refine Zk [0, 7] ?_
 (first | refine Z0c rfl ?_ ?_ | refine Z08 rfl ?_ ?_) <;> intro hc0
 ·have hz : Ma.tr l = [] := List.eq_nil_of_length_eq_zero ZO
  refine Z03 (Z00 (Zg (Z01 (Z02 ?_))))
  refine Zk [2] ?_
  refine Z0i ?_
  refine Z07 ?_
  refine Z0e results250 rfl ?_
  refine ⟨_, rfl, ?_⟩
  refine ⟨?_, rfl⟩
  rw [← htv, hz]
  rfl
 have hp : 0 < (Ma.tr l).length := by omega
 have hbw := blen_words hU2 (Ma.tr_Tr l) hp
 rw [htv] at hbw
 refine Z0a (Z02 ?_)
 refine Zk [0] ?_
 refine Z03 (Z00 (Zm ?_))
 refine Z0u rfl rfl underlying155 rfl (by first | exact hv2 | exact hv | assumption) ?_
 refine Z0W rfl rfl rfl rfl (Z0l ZO) ?_
 refine Z20 rfl rfl rfl rfl (Z0l ZO) ?_
 refine Zm (Zm ?_)
 refine Z0u rfl rfl underlying155 rfl (by first | exact hv2 | exact hv | assumption) ?_
 refine Z0W rfl rfl rfl rfl (Z0l ZO) ?_
 refine Z0T (j := (Ma.tr l).length - 1) rfl rfl rfl rfl underlying155 tz24 underlying24 rfl rfl (by first | exact hv2 | exact hv | assumption) ZA rfl ZO ZI (fun hb4_8 => ?_)
 have hy0 := Ma.blen_nonneg ((Ma.tr l).getD ((Ma.tr l).length - 1) 0)
 have hy1 : Ma.blen ((Ma.tr l).getD ((Ma.tr l).length - 1) 0) ≤ 64 := (Ma.blen_le_iff hb4_8.1 64).2 (Int.lt_of_le_of_lt hb4_8.2 (by decide))
 refine Z13 rfl rfl func275 rfl rfl (.cons rfl .nil) (len64 _ hb4_8 _) ?_
 refine Z0y rfl rfl rfl rfl (Z0l ZO) ?_
 refine Zg (Z01 (Z02 ?_))
 refine Zk [2] ?_
 refine Z0i ?_
 refine Z0e results250 rfl ?_
 refine ⟨_, rfl, ?_⟩
 refine ⟨?_, rfl⟩
 rw [hbw]
theorem Z4S (A : Option Addr) (c : Nat) (l : List Int) (hU : U l) (hL : l.length ≤ 17592186044416) (w : World) (hv : IV w (.slice A (ints .u64 l).length c) (ints .u64 l)) :
  Z0f P 265 [.slice A (ints .u64 l).length c] w fun r w' => r = .bool (decide (8192 < Ma.blen (nv l))) ∧ w = w' := by
 refine Z0o func265 rfl ntmps265 rfl ?_
 refine Z03 (Z00 (Zg (Z01 (Z02 ?_))))
 refine Zk [0] ?_
 refine Z03 (Z00 (Zm ?_))
 refine Zp func250 (lenN A c l hU hL w hv) ?_
 refine Zw ?_
 refine Zg (Z01 (Z02 ?_))
 refine Zk [2] ?_
 refine Z0i ?_
 refine Z0e results265 rfl ?_
 refine ⟨_, rfl, ?_⟩
 exact ⟨rfl, rfl⟩
def toldV (A : Option Addr) (l : List Int) : Value := if 8192 < Ma.blen (nv l) then .tuple #[.slice none 0 0, .int .i64 21] else .tuple #[.slice A (Ma.tr l).length (Ma.tr l).length, .int .i64 0]
theorem toldN (A : Option Addr) (c : Nat) (l : List Int) (hU : U l) (hL : l.length ≤ 17592186044416) (w : World) (hv : IV w (.slice A (ints .u64 l).length c) (ints .u64 l)) :
  Z0f P 268 [.slice A (ints .u64 l).length c] w fun r w' => r = toldV A l ∧ w = w' := by
 refine Z0o func268 rfl ntmps268 rfl ?_
 refine Z03 (Z00 (Zg (Zg (Z01 (Z02 ?_)))))
 refine Zk [0] ?_
 refine Z03 (Z03 (Z00 (Zm ?_)))
 refine Zp func265 (Z4S A c l hU hL w hv) ?_
 refine Z01 (Z02 ?_)
 refine Zk [0, 5] ?_
 (first | refine Z0c rfl ?_ ?_ | refine Z08 rfl ?_ ?_) <;> intro hc0
 ·refine Z03 (Z00 (Zg (Zg (Z01 (Z02 ?_)))))
  refine Zk [2, 3] ?_
  refine Z0i ?_
  refine Z07 ?_
  refine Z0P results268 rfl rfl ?_
  refine ⟨_, rfl, ?_⟩
  exact ⟨by unfold toldV; rw [if_pos hc0], rfl⟩
 refine Z0a (Z02 ?_)
 refine Zk [0] ?_
 refine Z03 (Z00 (Zm ?_))
 refine Zp func264 (trim A c l hU hL w hv) ?_
 refine Zg (Zg (Z01 (Z02 ?_)))
 refine Zk [2, 3] ?_
 refine Z0i ?_
 refine Z0P results268 rfl rfl ?_
 refine ⟨_, rfl, ?_⟩
 exact ⟨by unfold toldV; rw [if_neg hc0], rfl⟩
theorem atN (v : Value) (l : List Int) (hU : U l) (j : Nat) (w : World) (hv : IV w v (ints .u64 l)) :
  Z0f P 267 [v, .int .i64 (j : Int)] w fun r w' => r = .int .u64 (l.getD j 0) ∧ w = w' := by
 refine Z0o func267 rfl ntmps267 rfl ?_
 refine Z03 (Z00 (Zg (Z01 (Z02 ?_))))
 refine Zk [0, 1] ?_
 refine Z03 (Z03 (Z00 (Zm (Zm ?_))))
 refine Z0u rfl rfl underlying155 rfl (by first | exact hv | assumption) ?_
 refine Zl ?_
 refine Z01 (Z02 ?_)
 refine Zk [0, 1, 8] ?_
 (first | refine Z0c rfl ?_ ?_ | refine Z08 rfl ?_ ?_) <;> intro hc0
 ·refine Z03 (Z00 (Zm (Zm ?_)))
  refine Z0T rfl rfl rfl rfl underlying155 tz24 underlying24 rfl rfl (by first | exact hv | assumption) ZA rfl rfl ZI (fun hb2_2 => ?_)
  refine Zg (Z01 (Z02 ?_))
  refine Zk [4] ?_
  refine Z0i ?_
  refine Z07 ?_
  refine Z0e results267 rfl ?_
  refine ⟨_, rfl, ?_⟩
  exact ⟨rfl, rfl⟩
 refine Z0a (Z02 ?_)
 refine Zk [] ?_
 refine Z03 (Z00 (Zg (Z01 (Z02 ?_))))
 refine Z0i ?_
 refine Z0e results267 rfl ?_
 refine ⟨_, rfl, ?_⟩
 exact ⟨by simp [List.getD, show l.length ≤ j by omega], rfl⟩
def NatR (w w' : World) (r : Value) (e n : Int) : Prop := ∃ v ls, r = .tuple #[v, .int .i64 e] ∧ Ma.Cn 18446744073709551616 ls n ∧ Grow w w' [As.ri 24 .u64 v ls]
def TellR (w w' : World) (r v : Value) (l : List Int) : Prop :=
 ∃ v' ls, r = .tuple #[v', .int .i64 (if 8192 < Ma.blen (nv l) then 21 else 0)] ∧ Ma.Cn 18446744073709551616 ls (if 8192 < Ma.blen (nv l) then 0 else nv l) ∧ Turn w w' (As.ri 24 .u64 v l) (As.ri 24 .u64 v' ls)
theorem Z6z {v : Value} {l : List Int} (hU : U l) (hL : l.length ≤ 17592186044416) {w : World} (hv : IV w v (ints .u64 l)) : Z0f P 268 [v] w fun r w' => TellR w w' r v l := by
 obtain ⟨A, c, rfl, hc, hs⟩ := hv
 refine (toldN A c l hU hL w ⟨A, c, rfl, hc, hs⟩).mono ?_
 rintro r _ ⟨rfl, rfl⟩
 unfold toldV
 by_cases h : 8192 < Ma.blen (nv l)
 ·refine ⟨.slice none 0 0, [], ?_, ?_, ?_⟩
  ·rw [if_pos h, if_pos h]
  ·rw [if_pos h]; exact Ma.Cn.nil
  intro w0 B M σ σ' u hw
  exact hw.as u (fun k hk => by simp [As.own, Value.ownBlock] at hk) (fun w _ => Own.nil w _ 1)
 refine ⟨.slice A (Ma.tr l).length (Ma.tr l).length, Ma.tr l, ?_, ?_, ?_⟩
 ·rw [if_neg h, if_neg h]
 ·rw [if_neg h]; exact Ma.Cn.of_tr hU.dg rfl
 intro w0 B M σ σ' u hw
 exact trim_st u hw
theorem Ma.Cn.u {l : List Int} {n : Int} (h : Ma.Cn 18446744073709551616 l n) : U l := U.of_dg h.dg
theorem cloneN (v : Value) (l : List Int) (hU : U l) (hL : l.length ≤ 17592186044416) (w : World) (hv : IV w v (ints .u64 l)) :
  Z0f P 262 [v] w fun r w' => ∃ v', r = v' ∧ Grow w w' [As.ri 24 .u64 v' (Ma.tr l)] := by
 refine Z0o func262 rfl ntmps262 rfl ?_
 have H0 := St.start w
 obtain ⟨A, c, rfl, hc, hs⟩ := hv
 have hv : IV w (.slice A (ints .u64 l).length c) (ints .u64 l) := ⟨A, c, rfl, hc, hs⟩
 have hv2 := Z21 hv
 have hl2 : (Ma.tr l).length ≤ l.length := (Ma.tr_take l).2.1
 refine Z03 (Z00 (Zg (Z01 (Z02 ?_))))
 refine Zk [0] ?_
 refine Z03 (Z00 (Zm ?_))
 refine Zp func264 (trim A c l hU hL w (H0.iarg hv)) ?_
 refine Z5K H0 rfl rfl underlying155 ti24 rfl rfl rfl (by first | exact H0.iarg hv2 | assumption) (by first | exact Z4K _ _ | exact Z5L _ | simp [Value.oneCell']) (by first | (simp; done) | (simp; omega)) (by first | (simp; done) | (simp; omega)) (fun v1_2 w1 H1 => ?_)
 refine Zg (Z01 (Z02 ?_))
 refine Zk [2] ?_
 refine Z0i ?_
 refine Z0e results262 rfl ?_
 refine ⟨_, rfl, ?_⟩
 exact ⟨_, rfl, H1.grows⟩
theorem ofN (x : Int) (hx : 0 ≤ x ∧ x ≤ 18446744073709551615) (w : World) :
  Z0f P 241 [.int .u64 x] w fun r w' => ∃ v ls, r = v ∧ Ma.Cn 18446744073709551616 ls x ∧ Grow w w' [As.ri 24 .u64 v ls] := by
 refine Z0o func241 rfl ntmps241 rfl ?_
 have H0 := St.start w
 have hU1 : U [x] := fun y hy => by rw [List.mem_singleton.1 hy]; exact hx
 refine Z03 (Z00 (Zg (Z01 (Z02 ?_))))
 refine Zk [0] ?_
 refine Z03 (Z00 (Zm ?_))
 refine Z2g H0 rfl rfl underlying155 ti24 rfl (.cons rfl ZR .nil) rfl rfl rfl (fun b1_1 w1 H1 => ?_)
 refine Z0I rfl rfl func262 rfl rfl (.cons rfl .nil) (cloneN _ [x] hU1 (by simp) w1 (H1.ibl mem0)) ?_
 rintro _ w2 ⟨v', rfl, hG⟩
 have H2 := hG _ _ _ _ H1
 simp only [Zca, Zna] at H2
 refine Zg (Z01 (Z02 ?_))
 refine Zk [2] ?_
 refine Z0i ?_
 refine Z0e results241 rfl ?_
 refine ⟨_, rfl, ?_⟩
 have H3 := St.del (.tail .head) H2
 exact ⟨_, _, rfl, Ma.Cn.of_tr hU1.dg (by simp [Ma.vb]), H3.grows⟩
theorem U.tr {l : List Int} (h : U l) : U (Ma.tr l) := U.of_dg h.dg.tr
theorem Z3M (l : List Int) : nv (Ma.tr l) = nv l := Ma.tr_val _ l
theorem take_max_l (l m : List Int) : l.take (max l.length m.length) = l := List.take_of_length_le (by omega)
theorem take_max_r (l m : List Int) : m.take (max l.length m.length) = m := List.take_of_length_le (by omega)
theorem Z1j {l : List Int} (h : U l) (j : Nat) : 0 ≤ l.getD j 0 ∧ l.getD j 0 ≤ 18446744073709551615 := by
 rcases Nat.lt_or_ge j l.length with hj | hj
 ·exact h.get hj
 simp [List.getD, hj]
theorem U.set {l : List Int} (h : U l) {x : Int} (hx : 0 ≤ x ∧ x ≤ 18446744073709551615) (j : Nat) : U (l.set j x) := fun y hy => (List.mem_or_eq_of_mem_set hy).elim (h y) (fun e => e ▸ hx)
theorem U.zeros (n : Nat) : U (List.replicate n 0) := fun y hy => by rw [List.eq_of_mem_replicate hy]; omega
theorem sum_step {B p s x y c A C : Int} (hB : 0 < B) (h : s + p * c = A + C) : s + p * ((x + y + c) % B) + (p * B) * ((x + y + c) / B) = A + p * x + (C + p * y) := by
 have e := Int.emod_add_mul_ediv (x + y + c) B
 have : p * ((x + y + c) % B) + (p * B) * ((x + y + c) / B) = p * x + p * y + p * c := by
  rw [Int.mul_assoc, ← Int.mul_add, e, Int.mul_add, Int.mul_add]
 omega
theorem addN (a b : Value) (la lb : List Int) (hUa : U la) (hUb : U lb) (hLa : la.length ≤ 1099511627776) (hLb : lb.length ≤ 1099511627776) (w : World) (ha : IV w a (ints .u64 la)) (hb : IV w b (ints .u64 lb)) :
  Z0f P 240 [a, b] w fun r w' => NatR w w' r (if 8192 < Ma.blen (nv la) ∨ 8192 < Ma.blen (nv lb) ∨ 8192 < Ma.blen (nv la + nv lb) then 21 else 0) (if 8192 < Ma.blen (nv la) ∨ 8192 < Ma.blen (nv lb) ∨ 8192 < Ma.blen (nv la + nv lb) then 0 else nv la + nv lb) := by
 refine Z0o func240 rfl ntmps240 rfl ?_
 have H0 := St.start w
 obtain ⟨A, ca, rfl, hca, hsa⟩ := ha
 have ha : IV w (.slice A (ints .u64 la).length ca) (ints .u64 la) := ⟨A, ca, rfl, hca, hsa⟩
 obtain ⟨A2, cb, rfl, hcb, hsb⟩ := hb
 have hb : IV w (.slice A2 (ints .u64 lb).length cb) (ints .u64 lb) := ⟨A2, cb, rfl, hcb, hsb⟩
 have hva := Z21 ha
 have hvb := Z21 hb
 have hta : (Ma.tr la).length ≤ la.length := (Ma.tr_take la).2.1
 have htb : (Ma.tr lb).length ≤ lb.length := (Ma.tr_take lb).2.1
 have hUa2 := hUa.tr
 have hUb2 := hUb.tr
 clear hsa hsb
 refine Z03 (Z00 (Zg (Zg (Z01 (Z02 ?_)))))
 refine Zk [0, 1] ?_
 refine Z03 (Z03 (Z00 (Zm ?_)))
 refine Zp func265 (Z4S A ca la hUa ZO w (H0.iarg ha)) ?_
 refine Zm ?_
 apply l_or 2 [0, 1] rfl rfl (.cons rfl (.cons rfl (.cons rfl .nil))) rfl rfl (fun _ => rfl) rfl rfl rfl
 ·intro hg1_3
  refine Zm ?_
  refine Zp func265 (Z4S A2 cb lb hUb ZO w (H0.iarg hb)) ?_
  refine Z01 ?_
  exact Z0O rfl (.cons rfl (ZF hg1_3) (.cons rfl rfl (.cons rfl rfl .nil)))
 refine Z01 (Z02 ?_)
 refine Zk [0, 1, 15] ?_
 (first | refine Z0c rfl ?_ ?_ | refine Z08 rfl ?_ ?_) <;> intro hc0
 ·have hbad : 8192 < Ma.blen (nv la) ∨ 8192 < Ma.blen (nv lb) := hc0
  refine Z03 (Z00 (Zg (Zg (Z01 (Z02 ?_)))))
  refine Zk [4, 5] ?_
  refine Z0i ?_
  refine Z07 ?_
  have H9 := H0.nil 24
  refine Z0P results240 rfl rfl ?_
  refine ⟨_, rfl, ?_⟩
  unfold NatR
  rw [if_pos (hbad.elim .inl fun h => .inr (.inl h)), if_pos (hbad.elim .inl fun h => .inr (.inl h))]
  exact ⟨_, _, rfl, Ma.Cn.nil, (H0.nil 24).grows⟩
 have hgood : ¬ (8192 < Ma.blen (nv la) ∨ 8192 < Ma.blen (nv lb)) := hc0
 refine Z0a (Z02 ?_)
 refine Zk [0, 1] ?_
 refine Z03 (Z00 (Zm ?_))
 refine Zp func264 (trim A ca la hUa ZO w (H0.iarg ha)) ?_
 refine Zm ?_
 refine Zp func264 (trim A2 cb lb hUb ZO w (H0.iarg hb)) ?_
 refine Zg (Zg (Z01 (Z02 ?_)))
 refine Zk [0, 1] ?_
 refine Z03 (Z00 (Zm ?_))
 refine Z0u rfl rfl underlying155 rfl (by first | exact H0.iarg hva | exact H0.iarg hvb | exact H0.iarg ha | exact H0.iarg hb | assumption) ?_
 refine Zm ?_
 refine Z0u rfl rfl underlying155 rfl (by first | exact H0.iarg hva | exact H0.iarg hvb | exact H0.iarg ha | exact H0.iarg hb | assumption) ?_
 refine Z5T rfl rfl rfl rfl ?_
 refine Zg (Z01 (Z02 ?_))
 refine Zk [0, 1, 6] ?_
 refine Z03 (Z00 (Zm ?_))
 refine Z0y rfl rfl rfl rfl (Z0l ZO) ?_
 refine Z1A (m := max (Ma.tr la).length (Ma.tr lb).length + 1) (c := max (Ma.tr la).length (Ma.tr lb).length + 1) H0 rfl rfl underlying155 ti24 rfl rfl rfl ZO ZO ZO ZO ZO (fun v5_2 w1 H1 => ?_)
 refine Zg (Z01 (Z02 ?_))
 refine Zk [0, 1, 6, 7] ?_
 refine Z03 (Z00 (Zg (Z01 (Z02 (Z03 (Z03 (Z00 (Zm (Zm (Z01 (Z02 ?_)))))))))))
 refine Z0d ?_
 refine Z0z (ι := Nat × List Int × Int) (fun (z0 : Nat × List Int × Int) => match z0 with | ⟨k, o, c⟩ => max (Ma.tr la).length (Ma.tr lb).length - k) (fun (z0 : Nat × List Int × Int) (w' : World) => match z0 with | ⟨k, o, c⟩ => St w w.heap.size Z0J ([As.ri 24 .u64 v5_2 o]) w' ∧ k ≤ max (Ma.tr la).length (Ma.tr lb).length ∧ o.length = max (Ma.tr la).length (Ma.tr lb).length + 1 ∧ U o ∧ 0 ≤ c ∧ c ≤ 1 ∧ nv (o.take k) + 18446744073709551616 ^ k * c = nv ((Ma.tr la).take k) + nv ((Ma.tr lb).take k)) (fun (z0 : Nat × List Int × Int) => match z0 with | ⟨k, o, c⟩ => [(8, .int .u64 c), (29, .int .i64 (k : Int))]) [0, 1, 6, 7, 28] (0, List.replicate (max (Ma.tr la).length (Ma.tr lb).length + 1) 0, 0) ?_ (.cons rfl (.cons rfl (.cons rfl (.cons rfl (.cons rfl .nil))))) ?_ ?_
 ·refine ⟨?_, ZO, by simp, U.zeros _, ZO, ZO, by simp [Ma.vb]⟩
  exact H1.cast (by rw [Z14])
 ·exact (.cons rfl ZN (.cons rfl ZN .nil))
 rintro ⟨k, o, c⟩ w2 ⟨H2, hk, ho, hUo, hca1, hca2, hv⟩
 show RunC P _ _ _ (_ :: _) _
 refine Z03 (Z00 ?_)
 refine Zl ?_
 refine Z01 (Z02 (Z03 ?_))
 (first | refine Z0c rfl ?_ ?_ | refine Z08 rfl ?_ ?_) <;> intro hc1
 ·refine Z0a (Z02 ?_)
  refine Zk [0, 1, 6, 7, 8, 28, 29] ?_
  refine Z03 (Z0d (Z03 (Z00 (Zm (Zg (Z01 (Z02 ?_)))))))
  refine Zk [0, 1, 6, 7, 8, 9, 28, 29] ?_
  refine Z00 (Zm (Zm (Zm (Zm ?_))))
  refine Z13 rfl rfl func267 rfl rfl (.cons rfl (.cons rfl .nil)) (atN _ _ hUa2 k w2 (H2.iarg hva)) ?_
  refine Zm (Zm ?_)
  refine Z13 rfl rfl func267 rfl rfl (.cons rfl (.cons rfl .nil)) (atN _ _ hUb2 k w2 (H2.iarg hvb)) ?_
  refine Zm ?_
  refine Z25 rfl rfl func266 rfl rfl rfl rfl (.cons rfl (.cons rfl (.cons rfl .nil))) (run_add64 _ _ _ (Z1j hUa2 k).1 (Z1j hUb2 k).1 hca1 hca2 _) ?_
  refine Zm ?_
  refine Zx (Zx ?_)
  refine Z2o rfl rfl underlying155 tz24 rfl rfl (by first | exact H2.io mem0 | exact H2.iarg hva | exact H2.iarg hvb | exact H2.iarg ha | exact H2.iarg hb | assumption) rfl ZI (fun A10_13 c10_13 hA10_13 => ?_)
  refine Z1w H2 .head hA10_13 rfl tz24 rfl rfl ZI (fun w3 H3 => ?_)
  refine Zg (Z01 ?_)
  refine Z0F ?_
  refine Z02 ?_
  refine Zk [0, 1, 6, 7, 8, 28, 29] ?_
  refine Z00 ?_
  refine Z0y rfl rfl rfl rfl (Z0l ZO) ?_
  refine Zm (Z01 ?_)
  refine Z0p (i := (k, o, c)) (k + 1, o.set k ((List.getD (Ma.tr la) k 0 + List.getD (Ma.tr lb) k 0 + c) % 18446744073709551616), (List.getD (Ma.tr la) k 0 + List.getD (Ma.tr lb) k 0 + c) / 18446744073709551616) ?_ ?_ (.cons rfl (.cons rfl (.cons rfl (.cons rfl (.cons rfl .nil))))) ?_
  ·first | omega | (simp; omega)
  ·have ga := Z1j hUa2 k
   have gb := Z1j hUb2 k
   refine ⟨H3, ZO, by simpa using ho, hUo.set ZO k, ZO, ZO, ?_⟩
   have h1 := Ma.vb_set 18446744073709551616 o k ((List.getD (Ma.tr la) k 0 + List.getD (Ma.tr lb) k 0 + c) % 18446744073709551616) ZO
   have h2 := Ma.vb_take_succ 18446744073709551616 (Ma.tr la) k
   have h3 := Ma.vb_take_succ 18446744073709551616 (Ma.tr lb) k
   show Ma.vb _ _ + _ = Ma.vb _ _ + Ma.vb _ _
   rw [h1, h2, h3, Int.pow_succ]
   exact sum_step ZO hv
  exact (.cons rfl ZN (.cons rfl ZN .nil))
 refine Z0H ?_
 refine Z06 ?_
 refine Z06 ?_
 refine Z0h ?_
 refine Z02 ?_
 refine Zk [6, 7, 8] ?_
 refine Z03 (Z00 (Zm (Zm (Zm ?_))))
 refine Z2o (j := max (Ma.tr la).length (Ma.tr lb).length) rfl rfl underlying155 tz24 rfl rfl (by first | exact H2.io mem0 | exact H2.iarg hva | exact H2.iarg hvb | exact H2.iarg ha | exact H2.iarg hb | assumption) ZO ZI (fun A12_3 c12_3 hA12_3 => ?_)
 refine Z1w H2 .head hA12_3 rfl tz24 rfl rfl ZI (fun w4 H4 => ?_)
 refine Z01 (Z02 ?_)
 refine Zk [7] ?_
 refine Z03 (Z00 ?_)
 have ho3 : (o.set (max (Ma.tr la).length (Ma.tr lb).length) c).length = max (Ma.tr la).length (Ma.tr lb).length + 1 := by simpa using ho
 have hU3 : U (o.set (max (Ma.tr la).length (Ma.tr lb).length) c) := hUo.set ZO _
 refine Zm ?_
 refine Zc func268 (Z6z hU3 ZO (H4.io mem0)) ?_
 rintro _ w5 ⟨v', ls, rfl, hcn, hT⟩
 have H5 := hT _ _ _ _ _ .head H4
 refine Zx (Zx (Zg (Zg (Z01 (Z02 ?_)))))
 refine Zk [4, 5] ?_
 refine Z0i ?_
 refine Z0P results240 rfl rfl ?_
 refine ⟨_, rfl, ?_⟩
 have hk2 : k = max (Ma.tr la).length (Ma.tr lb).length := by omega
 subst hk2
 have h1 := Ma.vb_set 18446744073709551616 o (max (Ma.tr la).length (Ma.tr lb).length) c ZO
 rw [List.take_of_length_le ZO] at h1
 rw [take_max_l, take_max_r, Z3M, Z3M] at hv
 have e : nv (o.set (max (Ma.tr la).length (Ma.tr lb).length) c) = nv la + nv lb := h1.trans hv
 rw [e] at hcn ⊢
 unfold NatR
 by_cases hC : 8192 < Ma.blen (nv la + nv lb)
 ·rw [if_pos hC] at hcn ⊢
  rw [if_pos (.inr (.inr hC)), if_pos (.inr (.inr hC))]
  exact ⟨_, _, rfl, hcn, H5.grows⟩
 rw [if_neg hC] at hcn ⊢
 have hn : ¬ (8192 < Ma.blen (nv la) ∨ 8192 < Ma.blen (nv lb) ∨ 8192 < Ma.blen (nv la + nv lb)) := fun h => h.elim (fun h => hgood (.inl h)) fun h => h.elim (fun h => hgood (.inr h)) hC
 rw [if_neg hn, if_neg hn]
 exact ⟨_, _, rfl, hcn, H5.grows⟩
def cmpI (a b : Int) : Int := if a < b then -1 else if b < a then 1 else 0
theorem Z4d {a b : Int} (h : a < b) : cmpI a b = -1 := by unfold cmpI; rw [if_pos h]
theorem cmpI_gt {a b : Int} (h : b < a) : cmpI a b = 1 := by unfold cmpI; rw [if_neg (by omega), if_pos h]
theorem cmpI_eq {a b : Int} (h : a = b) : cmpI a b = 0 := by unfold cmpI; rw [if_neg (by omega), if_neg (by omega)]
theorem drop_split {l : List Int} {k : Nat} (h : k < l.length) : l.drop k = l.getD k 0 :: l.drop (k + 1) := by
 have : l.getD k 0 = l[k] := by simp [List.getD, h]
 rw [this, ← List.drop_eq_getElem_cons h]
theorem cmpN (a b : Value) (la lb : List Int) (hUa : U la) (hUb : U lb) (hLa : la.length ≤ 1099511627776) (hLb : lb.length ≤ 1099511627776) (w : World) (ha : IV w a (ints .u64 la)) (hb : IV w b (ints .u64 lb)) :
  Z0f P 253 [a, b] w fun r w' => r = .int .i64 (cmpI (nv la) (nv lb)) ∧ Grow w w' [] := by
 refine Z0o func253 rfl ntmps253 rfl ?_
 have H0 := St.start w
 obtain ⟨A, ca, rfl, hca, hsa⟩ := ha
 have ha : IV w (.slice A (ints .u64 la).length ca) (ints .u64 la) := ⟨A, ca, rfl, hca, hsa⟩
 obtain ⟨A2, cb, rfl, hcb, hsb⟩ := hb
 have hb : IV w (.slice A2 (ints .u64 lb).length cb) (ints .u64 lb) := ⟨A2, cb, rfl, hcb, hsb⟩
 have hva := Z21 ha
 have hvb := Z21 hb
 have hta : (Ma.tr la).length ≤ la.length := (Ma.tr_take la).2.1
 have htb : (Ma.tr lb).length ≤ lb.length := (Ma.tr_take lb).2.1
 have hUa2 := hUa.tr
 have hUb2 := hUb.tr
 clear hsa hsb
 have cna : Ma.Cn 18446744073709551616 (Ma.tr la) (nv la) := Ma.Cn.of_tr hUa.dg rfl
 have cnb : Ma.Cn 18446744073709551616 (Ma.tr lb) (nv lb) := Ma.Cn.of_tr hUb.dg rfl
 refine Z03 (Z00 (Zg (Z01 (Z02 ?_))))
 refine Zk [0, 1] ?_
 refine Z03 (Z00 (Zm ?_))
 refine Zp func264 (trim A ca la hUa ZO w (H0.iarg ha)) ?_
 refine Zm ?_
 refine Zp func264 (trim A2 cb lb hUb ZO w (H0.iarg hb)) ?_
 refine Zg (Zg (Z01 (Z02 ?_)))
 refine Zk [0, 1] ?_
 refine Z03 (Z03 (Z00 (Zm ?_)))
 refine Z0u rfl rfl underlying155 rfl (by first | exact H0.iarg hva | exact H0.iarg hvb | assumption) ?_
 refine Zm ?_
 refine Z0u rfl rfl underlying155 rfl (by first | exact H0.iarg hva | exact H0.iarg hvb | assumption) ?_
 refine Zo ?_
 refine Z01 (Z02 ?_)
 refine Zk [0, 1, 14] ?_
 (first | refine Z0c rfl ?_ ?_ | refine Z08 rfl ?_ ?_) <;> intro hc0
 ·refine Z03 (Z03 (Z00 (Zm ?_)))
  refine Z0u rfl rfl underlying155 rfl (by first | exact H0.iarg hva | exact H0.iarg hvb | assumption) ?_
  refine Zm ?_
  refine Z0u rfl rfl underlying155 rfl (by first | exact H0.iarg hva | exact H0.iarg hvb | assumption) ?_
  refine Zl ?_
  refine Z01 (Z02 ?_)
  refine Zk [19] ?_
  (first | refine Z0c rfl ?_ ?_ | refine Z08 rfl ?_ ?_) <;> intro hc1
  ·refine Z03 (Z00 (Zg (Z01 (Z02 ?_))))
   refine Zk [4] ?_
   refine Z0i ?_
   refine Z07 ?_
   refine Z07 ?_
   refine Z0e results253 rfl ?_
   refine ⟨_, rfl, ?_⟩
   exact ⟨by rw [Z4d (cna.lt_of_len ZO cnb ZO)], H0.grows⟩
  refine Z0a (Z02 ?_)
  refine Zk [] ?_
  refine Z03 (Z00 (Zg (Z01 (Z02 ?_))))
  refine Z0i ?_
  refine Z07 ?_
  refine Z0e results253 rfl ?_
  refine ⟨_, rfl, ?_⟩
  exact ⟨by rw [cmpI_gt (cnb.lt_of_len ZO cna ZO)], H0.grows⟩
 have hlen : (Ma.tr la).length = (Ma.tr lb).length := by omega
 refine Z0a (Z02 ?_)
 refine Zk [0, 1] ?_
 refine Z03 (Z03 (Z00 (Zm ?_)))
 refine Z0u rfl rfl underlying155 rfl (by first | exact H0.iarg hva | exact H0.iarg hvb | assumption) ?_
 refine Z0W rfl rfl rfl rfl (Z0l ZO) ?_
 refine Zg (Z01 (Z02 ?_))
 refine Zk [0, 1, 5] ?_
 refine Z0d ?_
 refine Z0z (ι := Nat) (fun (k : Nat) => k) (fun (k : Nat) (w' : World) => St w w.heap.size Z0J ([]) w' ∧ k ≤ (Ma.tr la).length ∧ (Ma.tr la).drop k = (Ma.tr lb).drop k) (fun (k : Nat) => [(5, .int .i64 ((k : Int) - 1))]) [0, 1] ((Ma.tr la).length) ?_ (.cons rfl (.cons rfl .nil)) ?_ ?_
 ·exact ⟨H0, Nat.le_refl _, by rw [List.drop_length, hlen, List.drop_length]⟩
 ·exact (.cons rfl ZN .nil)
 rintro k w1 ⟨H1, hk, hd⟩
 show RunC P _ _ _ (_ :: _) _
 refine Z03 (Z03 (Z00 (Zm ?_)))
 refine Zh ?_
 refine Z01 (Z02 ?_)
 refine Zk [0, 1, 5, 24] ?_
 (first | refine Z0c rfl ?_ ?_ | refine Z08 rfl ?_ ?_) <;> intro hc2
 ·refine Z0a (Z02 ?_)
  refine Zk [0, 1, 5] ?_
  refine Z03 (Z0d (Z0d (Z03 ?_)))
  refine Z2F ZK ZK ?_
  have H2 := H1.drewn
  refine Zm (Zm ?_)
  refine Z0T (j := k - 1) rfl rfl rfl rfl underlying155 tz24 underlying24 rfl rfl (by first | exact H2.iarg hva | exact H2.iarg hvb | assumption) ZA rfl ZO ZI (fun hb9_2 => ?_)
  refine Zm (Zm ?_)
  refine Z0T (j := k - 1) rfl rfl rfl rfl underlying155 tz24 underlying24 rfl rfl (by first | exact H2.iarg hva | exact H2.iarg hvb | assumption) ZA rfl ZO ZI (fun hb9_6 => ?_)
  refine Zl ?_
  refine Zg (Z01 (Z02 ?_))
  refine Zk [0, 1, 5, 27] ?_
  (first | refine Z0c rfl ?_ ?_ | refine Z08 rfl ?_ ?_) <;> intro hc3
  ·refine Z03 (Z00 (Zg (Z01 (Z02 ?_))))
   refine Zk [4] ?_
   refine Z0i ?_
   refine Z0k ?_
   refine Z0k ?_
   refine Z07 ?_
   refine Z07 ?_
   refine Z0k ?_
   refine Z07 ?_
   refine Z0e results253 rfl ?_
   refine ⟨_, rfl, ?_⟩
   have hd' : (Ma.tr la).drop (k - 1 + 1) = (Ma.tr lb).drop (k - 1 + 1) := by rw [show k - 1 + 1 = k from by omega]; exact hd
   have h := Ma.vb_lt_of_top (show (0 : Int) < 18446744073709551616 by omega) hUa2.dg hUb2.dg hlen (k := k - 1) ZO hd' ZO
   rw [cna.val, cnb.val] at h
   exact ⟨by rw [Z4d h], H2.grows⟩
  refine Z03 ?_
  refine Z2F ZK ZK ?_
  have H3 := H2.drewn
  refine Zm (Zm ?_)
  refine Z0T (j := k - 1) rfl rfl rfl rfl underlying155 tz24 underlying24 rfl rfl (by first | exact H3.iarg hva | exact H3.iarg hvb | assumption) ZA rfl ZO ZI (fun hb11_2 => ?_)
  refine Zm (Zm ?_)
  refine Z0T (j := k - 1) rfl rfl rfl rfl underlying155 tz24 underlying24 rfl rfl (by first | exact H3.iarg hva | exact H3.iarg hvb | assumption) ZA rfl ZO ZI (fun hb11_6 => ?_)
  refine Zw ?_
  refine Zg (Z01 (Z02 ?_))
  refine Zk [0, 1, 5, 37] ?_
  (first | refine Z0c rfl ?_ ?_ | refine Z08 rfl ?_ ?_) <;> intro hc4
  ·refine Z03 (Z00 (Zg (Z01 (Z02 ?_))))
   refine Zk [4] ?_
   refine Z0i ?_
   refine Z0k ?_
   refine Z0k ?_
   refine Z07 ?_
   refine Z07 ?_
   refine Z0k ?_
   refine Z07 ?_
   refine Z0e results253 rfl ?_
   refine ⟨_, rfl, ?_⟩
   have hd' : (Ma.tr lb).drop (k - 1 + 1) = (Ma.tr la).drop (k - 1 + 1) := by rw [show k - 1 + 1 = k from by omega]; exact hd.symm
   have h := Ma.vb_lt_of_top (show (0 : Int) < 18446744073709551616 by omega) hUb2.dg hUa2.dg hlen.symm (k := k - 1) ZO hd' ZO
   rw [cna.val, cnb.val] at h
   exact ⟨by rw [cmpI_gt h], H3.grows⟩
  refine Z0a ?_
  refine Z0F ?_
  refine Z0F ?_
  refine Z02 ?_
  refine Zk [0, 1, 5] ?_
  refine Z00 (Zm ?_)
  refine Z0W rfl rfl rfl rfl (Z0l ZO) ?_
  refine Zg (Z01 ?_)
  refine Z0p (i := (k)) (k - 1) ?_ ?_ (.cons rfl (.cons rfl .nil)) ?_
  ·first | omega | (simp; omega)
  ·have e1 := drop_split (l := Ma.tr la) (k := k - 1) ZO
   have e2 := drop_split (l := Ma.tr lb) (k := k - 1) ZO
   refine ⟨H3, ZO, ?_⟩
   rw [e1, e2, show k - 1 + 1 = k from by omega, hd, show (Ma.tr la).getD (k - 1) 0 = (Ma.tr lb).getD (k - 1) 0 from by omega]
  exact (.cons rfl ZN .nil)
 refine Z0H ?_
 refine Z06 ?_
 refine Z06 ?_
 refine Z0h ?_
 refine Z02 ?_
 refine Zk [] ?_
 refine Z03 (Z00 (Zg (Z01 (Z02 ?_))))
 refine Z0i ?_
 refine Z0e results253 rfl ?_
 refine ⟨_, rfl, ?_⟩
 have hk0 : k = 0 := by omega
 subst hk0
 simp only [List.drop_zero] at hd
 exact ⟨by rw [cmpI_eq (cna.val.symm.trans ((congrArg _ hd).trans cnb.val))], H1.grows⟩
end Go.Proofs.YtgjgahmhoflgcaaGreatDoor.W
