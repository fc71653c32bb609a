/- facts on all entries of the power table, each closed -/
import Derived.Test.YtellpcjmpmcpoaaPd
set_option linter.unusedVariables false
set_option linter.unusedSimpArgs false
set_option maxRecDepth 10000
namespace Go.Proofs.Ytellpcjmpmcpoaa.W
open Go.Vc Go.RowKit

def stepP (q : Int) : Prop := (entS q).2.2 = 0 ∧ (entS (q + 1)).2.2 = 0 ∧ 0 ≤ (entS q).1 ∧ 0 ≤ (entS (q + 1)).1 ∧ (entS q).1 < 340282366920938463463374607431768211456 ∧ (entS (q + 1)).1 < 340282366920938463463374607431768211456 ∧
  2 ≤ (entS (q + 1)).2.1 - (entS q).2.1 ∧ (entS (q + 1)).2.1 - (entS q).2.1 ≤ 3 ∧ -2000 ≤ (entS q).2.1 ∧ (entS q).2.1 ≤ 2000 ∧
  (entS q).1 * 5 - (entS (q + 1)).1 * 2 ^ ((entS (q + 1)).2.1 - (entS q).2.1).toNat < 16 ∧ (entS (q + 1)).1 * 2 ^ ((entS (q + 1)).2.1 - (entS q).2.1).toNat - (entS q).1 * 5 < 16
instance (q : Int) : Decidable (stepP q) := by unfold stepP; infer_instance
theorem steps_all : ∀ i : Fin 650, stepP ((i.val : Int) - 342) := by decide +kernel
theorem steps_at {q : Int} (h : -342 ≤ q ∧ q ≤ 307) : stepP q := by
  have := steps_all ⟨(q + 342).toNat, by omega⟩
  rwa [show (((q + 342).toNat : Nat) : Int) - 342 = q from by omega] at this
def boundP (q : Int) : Prop := (entS q).2.2 = 0 ∧ 9223372036854775808 ≤ (entS q).1 / 18446744073709551616 ∧ (entS q).1 < 340282366920938463463374607431768211456 ∧ -2000 ≤ (entS q).2.1 ∧ (entS q).2.1 ≤ 2000 ∧ (q < 0 → (entS q).2.1 < 0) ∧
  (q < 0 → ((entS q).1 - 1) * 5 ^ (-q).toNat < 2 ^ (-(entS q).2.1).toNat ∧ 2 ^ (-(entS q).2.1).toNat < (entS q).1 * 5 ^ (-q).toNat) ∧
  (0 ≤ q → (entS q).2.1 < 0 → (entS q).1 ≤ 5 ^ q.toNat * 2 ^ (-(entS q).2.1).toNat ∧ 5 ^ q.toNat * 2 ^ (-(entS q).2.1).toNat < (entS q).1 + 1 ∧ ((entS q).1 = 5 ^ q.toNat * 2 ^ (-(entS q).2.1).toNat ↔ q ≤ 55)) ∧
  (0 ≤ q → 0 ≤ (entS q).2.1 → (entS q).1 * 2 ^ (entS q).2.1.toNat ≤ 5 ^ q.toNat ∧ 5 ^ q.toNat < ((entS q).1 + 1) * 2 ^ (entS q).2.1.toNat ∧ ((entS q).1 * 2 ^ (entS q).2.1.toNat = 5 ^ q.toNat ↔ q ≤ 55))
instance (q : Int) : Decidable (boundP q) := by unfold boundP; infer_instance
theorem bounds_all : ∀ i : Fin 651, boundP ((i.val : Int) - 342) := by decide +kernel
theorem bounds_at {q : Int} (h : -342 ≤ q ∧ q ≤ 308) : boundP q := by
  have := bounds_all ⟨(q + 342).toNat, by omega⟩
  rwa [show (((q + 342).toNat : Nat) : Int) - 342 = q from by omega] at this
theorem R16_16 : R16 [16] 16 := ⟨fun x hx => by rw [List.mem_singleton.1 hx]; omega, ⟨fun _ => by omega, trivial⟩, by decide⟩
theorem cmpI_le {a b : Int} (h : a ≤ b) : cmpI a b ≤ 0 := by
  rcases Int.lt_or_eq_of_le h with h | h
  · rw [cmpI_lt h]; omega
  · rw [cmpI_eq h]; omega
theorem len_sh {l : List Int} {m : Int} {k b : Nat} (h : R16 l (m * 2 ^ k)) (hm : 0 ≤ m) (hb : m < 2 ^ b) : 16 * l.length ≤ b + k + 16 := len_of_lt h (by rw [Int.pow_add]; exact Int.mul_lt_mul_of_pos_right hb (Ma.pow_pos (by omega) k))
theorem len_pr {l : List Int} {m n : Int} {b c : Nat} (h : R16 l (m * n)) (hm : 0 ≤ m) (hb : m < 2 ^ b) (hn : 0 ≤ n) (hc : n < 2 ^ c) : 16 * l.length ≤ b + c + 16 := len_of_lt h (by
  rw [Int.pow_add]
  have h1 : m * n ≤ m * 2 ^ c := Int.mul_le_mul_of_nonneg_left (Int.le_of_lt hc) hm
  have h2 : m * 2 ^ c < 2 ^ b * 2 ^ c := Int.mul_lt_mul_of_pos_right hb (Ma.pow_pos (by omega) c)
  omega)
theorem wide_back (A : Int) : A % 18446744073709551616 + 18446744073709551616 * (A / 18446744073709551616) = A := by omega
theorem tmod_in (n : Int) {k : Int} (hk : 0 < k) : -k < n.tmod k ∧ n.tmod k < k := ⟨Int.lt_tmod_of_pos n hk, Int.tmod_lt_of_pos n hk⟩

end Go.Proofs.Ytellpcjmpmcpoaa.W
