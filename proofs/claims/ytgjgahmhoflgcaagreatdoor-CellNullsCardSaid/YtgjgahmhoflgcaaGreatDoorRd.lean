/- walks of the reference's Cmp, Less, two, Left, Right -/
import Derived.Test.YtgjgahmhoflgcaaGreatDoorFf
set_option linter.unusedVariables false
set_option linter.unusedSimpArgs false
set_option maxRecDepth 10000
namespace Go.Proofs.YtgjgahmhoflgcaaGreatDoor.W
open Go.Vc Go.RowKit
theorem R16.drop {l : List Int} {n : Int} (h : R16 l n) (q : Nat) (hq : q ≤ l.length) : R16 (l.drop q) (n / 65536 ^ q) := by
 have e := Ma.vb_append 65536 (l.take q) (l.drop q)
 rw [List.take_append_drop, List.length_take, Nat.min_eq_left hq, h.val] at e
 have h1 := Ma.vb_lt (show (0 : Int) < 65536 by omega) (h.dg.take q)
 have h2 := Ma.vb_nonneg (show (0 : Int) < 65536 by omega) (h.dg.take q)
 rw [List.length_take, Nat.min_eq_left hq] at h1
 have hv : n / 65536 ^ q = Ma.vb 65536 (l.drop q) := by rw [e, Int.add_mul_ediv_left _ _ ZO, Int.ediv_eq_zero_of_lt h2 h1, Int.zero_add]
 refine ⟨h.dg.drop q, ?_, hv.symm⟩
 have ht : ∀ (q : Nat) (l : List Int), Ma.Tr l → Ma.Tr (l.drop q) := by
  intro q
  induction q with
  | zero => intro l h; simpa using h
  | succ q ih =>
   intro l h
   cases l with
   | nil => simpa using h
   | cons x l => simpa using ih l h.2
 exact ht q l h.tr
def SubR (w w' : World) (r : Value) (a b : Int) : Prop := ∃ v ls, r = .tuple #[v, .bool (decide (b ≤ a))] ∧ Ma.Cn 18446744073709551616 ls (if b ≤ a then a - b else 0) ∧ Grow w w' [As.ri 24 .u64 v ls]
theorem Z3V {a b : Int} : cmpI a b < 0 ↔ a < b := by
 unfold cmpI
 split
 ·omega
 split <;> omega
theorem Z71 {x : Int} (hx : 0 < x) (k : Nat) : Ma.blen (x * 2 ^ k) = Ma.blen x + k := by
 have := Ma.blen_shift (a := x) (r := 0) (k := k) hx ZO (Ma.pow_pos ZO k)
 rw [Int.zero_add, Int.mul_comm] at this
 omega
end Go.Proofs.YtgjgahmhoflgcaaGreatDoor.W
