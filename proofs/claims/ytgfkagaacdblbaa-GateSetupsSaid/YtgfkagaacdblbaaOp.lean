/- arguments that are rows of rows -/
import Derived.Test.YtgfkagaacdblbaaVx
import Derived.Test.YtgfkagaacdblbaaVr
import Derived.Test.YtgfkagaacdblbaaVk
set_option linter.unusedVariables false
set_option linter.unusedSimpArgs false
set_option maxRecDepth 10000
namespace Go.Proofs.Ytgfkagaacdblbaa.W
open Go.Vc Go.RowKit
open Go.ChangeShapes Go.WideShapes Go.ChangeAt Go.RowKit
section
variable {H : Type} {enc : TypeId × Value → H} {P : Program} {W W' : World}
theorem flat_len {k : Nat} : ∀ (rs : List (List Value)), (∀ x ∈ rs, x.length = k) → rs.flatten.length = rs.length * k
 | [], _ => by simp
 | r :: rs, h => by
  have h2 := flat_len rs (fun x hx => h x (.tail _ hx))
  rw [List.flatten_cons, List.length_append, h r (.head _), h2, List.length_cons, Nat.add_mul, Nat.one_mul, Nat.add_comm]
theorem flat_at {k : Nat} : ∀ (rs : List (List Value)), (∀ x ∈ rs, x.length = k) → ∀ (j : Nat) (r : List Value), rs[j]? = some r → ∀ (i : Nat), i < k → rs.flatten[j * k + i]? = r[i]?
 | [], _, j, r, h, i, hi => by simp at h
 | x :: rs, h, 0, r, hr, i, hi => by
  have hx := h x (.head _)
  obtain rfl : x = r := by simpa using hr
  rw [Nat.zero_mul, Nat.zero_add, List.flatten_cons, List.getElem?_append_left (by omega)]
 | x :: rs, h, j + 1, r, hr, i, hi => by
  have hx := h x (.head _)
  have ih := flat_at rs (fun y hy => h y (.tail _ hy)) j r (by simpa using hr) i hi
  rw [List.flatten_cons, List.getElem?_append_right (by rw [hx, Nat.add_mul, Nat.one_mul]; omega), hx, ← ih]
  congr 1
  rw [Nat.add_mul, Nat.one_mul]
  omega
end
end Go.Proofs.Ytgfkagaacdblbaa.W
