/- walks of the document's print: noughts, word, check, value, rounded -/
import Derived.Test.YtojjlipcjdaejaaDoorPf
set_option linter.unusedVariables false
set_option linter.unusedSimpArgs false
set_option maxRecDepth 10000
namespace Go.Proofs.YtojjlipcjdaejaaDoor.W
open Go.Vc Go.RowKit
theorem rn_blen {d : Kd} {b e : Int} (hb : 0 ≤ b ∧ b < d.I) (he : -420 ≤ e ∧ e ≤ 420) : Ma.blen (rnE (fN (fX d b) (-e)) (fD (fY d b) (-e))) ≤ (2900 : Nat) := by
 have hxy := fX_blen hb
 have hD0 := fD_pos (fY_pos d b) (-e)
 have hN0 := fN_nonneg hxy.1 (-e)
 have hNb := fN_blen hxy.1 (e := -e) (by omega) (by omega)
 have hQ0 : 0 ≤ fN (fX d b) (-e) / fD (fY d b) (-e) := Int.ediv_nonneg hN0 (Int.le_of_lt hD0)
 have hQ1 := Int.ediv_le_self (fD (fY d b) (-e)) hN0
 have h1 := (Ma.blen_le_iff hN0 2881).1 hNb
 have h2 := Ma.pow_mono (show (1 : Int) ≤ 2 by omega) (show 2882 ≤ 2900 by omega)
 have h3 : (2 : Int) ^ 2882 = 2 ^ 2881 * 2 := Int.pow_succ ..
 have h4 := p2_ 2881
 have hr := rnE_bd (N := fN (fX d b) (-e)) (D := fD (fY d b) (-e))
 exact (Ma.blen_le_iff (by omega) 2900).2 (by omega)
theorem askE_0 {k b n : Int} (h : askE k b n = 0) : (clsF k b).2 = 0 ∧ 0 ≤ n ∧ n ≤ 40 := by
 unfold askE at h
 split at h
 ·rename_i h1
  split at h
  ·omega
  ·exact ⟨h1, by omega, by omega⟩
 ·contradiction
end Go.Proofs.YtojjlipcjdaejaaDoor.W
