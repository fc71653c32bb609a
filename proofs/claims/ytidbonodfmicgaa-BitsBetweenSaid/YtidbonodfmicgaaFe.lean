/- walk of nat.Mul -/
import Derived.Test.YtidbonodfmicgaaFd
import Derived.Test.YtidbonodfmicgaaVe
set_option linter.unusedVariables false
set_option linter.unusedSimpArgs false
set_option maxRecDepth 10000
namespace Go.Proofs.Ytidbonodfmicgaa.W
open Go.Vc Go.RowKit

/-- one place of a product of words: what stands, and what is carried -/
theorem mul_place {W p V c A x y o hi lo s1 c1 s2 c2 : Int} (hW : 0 < W) (h : V + p * c = A) (h1 : hi * W + lo = x * y) (h2 : s1 + c1 * W = lo + c) (h3 : s2 + c2 * W = o + s1) :
    (V + p * (s2 - o)) + (p * W) * (hi + c1 + c2) = A + p * (x * y) := by
  have e : p * (s2 - o) + (p * W) * (hi + c1 + c2) = p * (x * y) + p * c := by
    rw [Int.mul_assoc, ← Int.mul_add, ← Int.mul_add]
    congr 1
    rw [Int.mul_add, Int.mul_add, Int.mul_comm W hi, Int.mul_comm W c1, Int.mul_comm W c2]
    omega
  omega
theorem U.set_ {l : List Int} (h : U l) {x : Int} (hx : 0 ≤ x ∧ x ≤ 18446744073709551615) (j : Nat) : U (l.set j x) := h.set hx j
theorem getD_set_ne {l : List Int} {i k : Nat} (x : Int) (h : i ≠ k) : (l.set i x).getD k 0 = l.getD k 0 := by simp [List.getD, List.getElem?_set_ne h]
/-- the high word of a product has room for two carries -/
theorem high_room {W hi lo x y c s1 c1 s2 c2 o : Int} (hW : 1 < W) (hx : 0 ≤ x ∧ x ≤ W - 1) (hy : 0 ≤ y ∧ y ≤ W - 1) (hc : 0 ≤ c ∧ c ≤ W - 1) (ho : 0 ≤ o ∧ o ≤ W - 1) (h1 : hi * W + lo = x * y) (h2 : s1 + c1 * W = lo + c) (h3 : s2 + c2 * W = o + s1) (hs2 : 0 ≤ s2) : hi + c1 + c2 ≤ W - 1 := by
  have h4 : x * y ≤ (W - 1) * (W - 1) := Int.mul_le_mul (by omega) (by omega) hy.1 (by omega)
  have h5 : (hi + c1 + c2) * W ≤ (W - 1) * (W - 1) + (W - 1) + (W - 1) := by
    rw [Int.add_mul, Int.add_mul]; omega
  have h6 : (W - 1) * (W - 1) + (W - 1) + (W - 1) = W * W - 1 := by
    rw [Int.mul_sub, Int.sub_mul]; omega
  rcases Int.lt_or_le (hi + c1 + c2) W with h | h
  · omega
  · have : W * W ≤ (hi + c1 + c2) * W := Int.mul_le_mul_of_nonneg_right h (by omega)
    omega

end Go.Proofs.Ytidbonodfmicgaa.W
