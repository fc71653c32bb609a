/- Arrays of structs: literals, and an element of an array's value. -/
import Derived.Test.YtgfkagaacdblbaaGreatVg
set_option linter.unusedVariables false
set_option linter.unusedSimpArgs false
namespace Go.Vc
open Go.RowKit
section
variable {P : Program} {N : Nat} {ρ : Env} {w : World}
theorem Z39.known {pl : List (Nat × Nat)} {cs cs' : List Value} {ps : List (Nat × Operand)} (h : Z39 ρ pl cs ps cs') : ∀ p ∈ ps, ∃ q, pl[p.1]? = some q := by
 induction h with
 | nil => intro p hp; cases hp
 | one hi _ _ _ _ ih =>
  intro p hp
  cases hp with
  | head => exact ⟨_, hi⟩
  | tail _ h => exact ih p h
 | row hi _ _ _ _ ih =>
  intro p hp
  cases hp with
  | head => exact ⟨_, hi⟩
  | tail _ h => exact ih p h
end
end Go.Vc
