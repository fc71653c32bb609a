/- walks of the reference's Len, Cmp, long, Add, Sub, Mul, Shl, Shr -/
import Derived.Test.YtggdkplphfofkaaGreatRd
import Derived.Test.YtggdkplphfofkaaGreatFl
set_option linter.unusedVariables false
set_option linter.unusedSimpArgs false
set_option maxRecDepth 10000
namespace Go.Proofs.YtggdkplphfofkaaGreat.W
open Go.Vc Go.RowKit
theorem blen_add {x y : Int} (hx0 : 0 ≤ x) (hy0 : 0 ≤ y) {m : Nat} (hx : Ma.blen x ≤ m) (hy : Ma.blen y ≤ m) : Ma.blen (x + y) ≤ (m + 1 : Nat) := by
 refine (Ma.blen_le_iff (by omega) (m + 1)).2 ?_
 have h1 := (Ma.blen_le_iff hx0 m).1 hx
 have h2 := (Ma.blen_le_iff hy0 m).1 hy
 rw [Int.pow_succ]
 omega
theorem R16.len_mono {l m : List Int} {a b : Int} (h : R16 l a) (k : R16 m b) (hab : a ≤ b) : l.length ≤ m.length := by
 rcases Nat.lt_or_ge m.length l.length with h1 | h1
 ·have := k.lt_of_len (show (1 : Int) < 65536 by omega) h h1
  omega
 ·exact h1
theorem cmpI_neg {a b : Int} : cmpI a b < 0 ↔ a < b := by
 unfold cmpI
 split
 ·omega
 ·split <;> omega
theorem blen_shl {x : Int} (hx : 0 < x) (k : Nat) : Ma.blen (x * 2 ^ k) = Ma.blen x + k := by
 have := Ma.blen_shift (a := x) (r := 0) (k := k) hx (by omega) (Ma.pow_pos (by omega) k)
 rw [Int.zero_add, Int.mul_comm] at this
 omega
end Go.Proofs.YtggdkplphfofkaaGreat.W
