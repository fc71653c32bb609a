/- walks of digit.Is, digit.Run, nat.trim and their like -/
import Derived.Test.YtmcbdgpcbcldjaaVx
set_option linter.unusedVariables false
set_option linter.unusedSimpArgs false
set_option maxRecDepth 10000
namespace Go.Proofs.Ytmcbdgpcbcldjaa.W
open Go.Vc Go.RowKit

/-- is a byte a digit? -/
def isD (b : UInt8) : Prop := 48 ≤ (b.toNat : Int) ∧ (b.toNat : Int) ≤ 57
instance (b : UInt8) : Decidable (isD b) := by unfold isD; infer_instance
/-- how many digits a text begins with -/
def run : List UInt8 → Nat
  | [] => 0
  | b :: l => if isD b then run l + 1 else 0
theorem run_le (l : List UInt8) : run l ≤ l.length := by
  induction l with
  | nil => simp [run]
  | cons b l ih => simp only [run, List.length_cons]; split <;> omega
theorem run_all : ∀ (l : List UInt8) (j : Nat), j < run l → isD (l.getD j 0)
  | [], j, h => by simp [run] at h
  | b :: l, j, h => by
    simp only [run] at h
    split at h
    · rename_i hb
      cases j with
      | zero => simpa using hb
      | succ j => simpa using run_all l j (by omega)
    · omega
theorem run_stop : ∀ (l : List UInt8), run l < l.length → ¬ isD (l.getD (run l) 0)
  | [], h => by simp at h
  | b :: l, h => by
    simp only [run] at h ⊢
    split
    · rename_i hb
      rw [if_pos hb] at h
      simpa using run_stop l (by simpa using h)
    · rename_i hb
      simpa using hb
theorem run_is (l : List UInt8) (n : Nat) (h1 : ∀ j, j < n → isD (l.getD j 0)) (h2 : n ≤ l.length) (h3 : n < l.length → ¬ isD (l.getD n 0)) : run l = n := by
  have a := run_le l
  rcases Nat.lt_trichotomy (run l) n with h | h | h
  · exact absurd (h1 _ h) (run_stop l (by omega))
  · exact h
  · exact absurd (run_all l n h) (h3 (by omega))


theorem run_eqn (l : List UInt8) (a n : Nat) (ha : a ≤ l.length) (h1 : ∀ j, j < n → isD (l.getD (a + j) 0)) (h2 : a + n ≤ l.length) (h3 : a + n < l.length → ¬ isD (l.getD (a + n) 0)) : run (l.drop a) = n := by
  refine run_is _ _ (fun j hj => ?_) (by rw [List.length_drop]; omega) (fun h => ?_)
  · have := h1 j hj
    simpa [List.getD, List.getElem?_drop] using this
  · rw [List.length_drop] at h
    have := h3 (by omega)
    simpa [List.getD, List.getElem?_drop] using this
theorem run_drop_all (l : List UInt8) (a j : Nat) (h : j < run (l.drop a)) : isD (l.getD (a + j) 0) := by
  have := run_all _ _ h
  simpa [List.getD, List.getElem?_drop] using this

end Go.Proofs.Ytmcbdgpcbcldjaa.W
