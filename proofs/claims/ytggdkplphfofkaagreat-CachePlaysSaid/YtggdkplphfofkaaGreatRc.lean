/- walks of the reference's told, Parse, Digits, Text -/
import Derived.Test.YtggdkplphfofkaaGreatRb
import Derived.Test.YtggdkplphfofkaaGreatVd
set_option linter.unusedVariables false
set_option linter.unusedSimpArgs false
set_option maxRecDepth 10000
namespace Go.Proofs.YtggdkplphfofkaaGreat.W
open Go.Vc Go.RowKit
theorem isD.le {b : UInt8} (h : isD b) : 48 ≤ (b.toNat : Int) ∧ (b.toNat : Int) ≤ 57 := h
theorem R16.len {l : List Int} {n : Int} (h : R16 l n) {k : Nat} (hb : Ma.blen n ≤ k) : 16 * l.length ≤ k + 16 := by
 rcases Nat.eq_zero_or_pos l.length with h0 | h0
 ·omega
 ·have := Ma.blen_top (s := 16) h.dg h.tr h0
  rw [show ((2 : Int) ^ 16) = 65536 from rfl, h.val] at this
  have := Ma.blen_nonneg (l.getD (l.length - 1) 0)
  omega
theorem R16.blen {l : List Int} {n : Int} (h : R16 l n) : Ma.blen n ≤ 16 * l.length := by
 have h1 := Ma.vb_lt (show (0 : Int) < 65536 by omega) h.dg
 rw [h.val, show (65536 : Int) = 2 ^ 16 from rfl, ← Int.pow_mul] at h1
 have := (Ma.blen_le_iff (h.nonneg (by omega)) (16 * l.length)).2 h1
 omega
theorem U.one {x : Int} (h : 0 ≤ x ∧ x ≤ 18446744073709551615) : U [x] := fun y hy => by rw [List.mem_singleton.1 hy]; exact h
end Go.Proofs.YtggdkplphfofkaaGreat.W
