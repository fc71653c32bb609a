/- walks of nat.Add, Cmp, Sub -/
import Derived.Test.YtjkaahnadaapoaaFc
set_option linter.unusedVariables false
set_option linter.unusedSimpArgs false
set_option maxRecDepth 10000
namespace Go.Proofs.Ytjkaahnadaapoaa.W
open Go.Vc Go.RowKit

theorem U.tr {l : List Int} (h : U l) : U (Ma.tr l) := U.of_dg h.dg.tr
theorem nv_tr (l : List Int) : nv (Ma.tr l) = nv l := Ma.tr_val _ l
theorem take_max_l (l m : List Int) : l.take (max l.length m.length) = l := List.take_of_length_le (by omega)
theorem take_max_r (l m : List Int) : m.take (max l.length m.length) = m := List.take_of_length_le (by omega)
theorem getD_u {l : List Int} (h : U l) (j : Nat) : 0 ≤ l.getD j 0 ∧ l.getD j 0 ≤ 18446744073709551615 := by
  rcases Nat.lt_or_ge j l.length with hj | hj
  · exact h.get hj
  · simp [List.getD, hj]
theorem U.set {l : List Int} (h : U l) {x : Int} (hx : 0 ≤ x ∧ x ≤ 18446744073709551615) (j : Nat) : U (l.set j x) := fun y hy => (List.mem_or_eq_of_mem_set hy).elim (h y) (fun e => e ▸ hx)
theorem U.zeros (n : Nat) : U (List.replicate n 0) := fun y hy => by rw [List.eq_of_mem_replicate hy]; omega
/-- one place of a sum -/
theorem sum_step {B p s x y c A C : Int} (hB : 0 < B) (h : s + p * c = A + C) : s + p * ((x + y + c) % B) + (p * B) * ((x + y + c) / B) = A + p * x + (C + p * y) := by
  have e := Int.emod_add_mul_ediv (x + y + c) B
  have : p * ((x + y + c) % B) + (p * B) * ((x + y + c) / B) = p * x + p * y + p * c := by
    rw [Int.mul_assoc, ← Int.mul_add, e, Int.mul_add, Int.mul_add]
  omega


/-- -1, 0, 1 -/
def cmpI (a b : Int) : Int := if a < b then -1 else if b < a then 1 else 0
theorem cmpI_lt {a b : Int} (h : a < b) : cmpI a b = -1 := by unfold cmpI; rw [if_pos h]
theorem cmpI_gt {a b : Int} (h : b < a) : cmpI a b = 1 := by unfold cmpI; rw [if_neg (by omega), if_pos h]
theorem cmpI_eq {a b : Int} (h : a = b) : cmpI a b = 0 := by unfold cmpI; rw [if_neg (by omega), if_neg (by omega)]
theorem drop_split {l : List Int} {k : Nat} (h : k < l.length) : l.drop k = l.getD k 0 :: l.drop (k + 1) := by
  have : l.getD k 0 = l[k] := by simp [List.getD, h]
  rw [this, ← List.drop_eq_getElem_cons h]

end Go.Proofs.Ytjkaahnadaapoaa.W
