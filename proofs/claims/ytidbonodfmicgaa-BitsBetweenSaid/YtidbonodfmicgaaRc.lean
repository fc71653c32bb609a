/- lengths of the reference's numbers -/
import Derived.Test.YtidbonodfmicgaaRb
set_option linter.unusedVariables false
set_option linter.unusedSimpArgs false
set_option maxRecDepth 10000
namespace Go.Proofs.Ytidbonodfmicgaa.W
open Go.Vc Go.RowKit
theorem R16.len {l : List Int} {n : Int} (h : R16 l n) {k : Nat} (hb : Ma.blen n ≤ k) : 16 * l.length ≤ k + 16 := by
  rcases Nat.eq_zero_or_pos l.length with h0 | h0
  · omega
  · have := Ma.blen_top (s := 16) h.dg h.tr h0
    rw [show ((2 : Int) ^ 16) = 65536 from rfl, h.val] at this
    have := Ma.blen_nonneg (l.getD (l.length - 1) 0)
    omega
theorem R16.blen {l : List Int} {n : Int} (h : R16 l n) : Ma.blen n ≤ 16 * l.length := by
  have h1 := Ma.vb_lt (show (0 : Int) < 65536 by omega) h.dg
  rw [h.val, show (65536 : Int) = 2 ^ 16 from rfl, ← Int.pow_mul] at h1
  have := (Ma.blen_le_iff (h.nonneg (by omega)) (16 * l.length)).2 h1
  omega
theorem R16.len_num {l ls : List Int} (hU : U l) (h : R16 ls (nv l)) : ls.length ≤ 4 * l.length + 1 := by
  have h1 : nv l < _ := Ma.vb_lt (show (0 : Int) < 18446744073709551616 by omega) hU.dg
  rw [← p4] at h1
  rcases Nat.eq_zero_or_pos ls.length with h0 | h0
  · omega
  · have h2 := Ma.Tr.pos (show (0 : Int) < 65536 by omega) h.dg h.tr (by intro e; subst e; simp at h0)
    rw [h.val] at h2
    rcases Nat.lt_or_ge (4 * l.length) (ls.length - 1) with h3 | h3
    · have := Ma.pow_mono (show (1 : Int) ≤ 65536 by omega) (show 4 * l.length ≤ ls.length - 1 by omega)
      omega
    · omega
theorem U.one {x : Int} (h : 0 ≤ x ∧ x ≤ 18446744073709551615) : U [x] := fun y hy => by rw [List.mem_singleton.1 hy]; exact h

end Go.Proofs.Ytidbonodfmicgaa.W
