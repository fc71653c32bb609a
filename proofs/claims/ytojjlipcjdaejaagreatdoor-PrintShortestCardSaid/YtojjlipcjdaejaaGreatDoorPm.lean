/- walks of print.first, print.Exponent -/
import Derived.Test.YtojjlipcjdaejaaGreatDoorPf
set_option linter.unusedVariables false
set_option linter.unusedSimpArgs false
set_option maxRecDepth 10000
namespace Go.Proofs.YtojjlipcjdaejaaGreatDoor.W
open Go.Vc Go.RowKit
def exB (R n t : Int) : List UInt8 := if n + 1 < ((dtx R).length : Int) then ptT ((dtx R).take (n.toNat + 1)) 1 ++ exT (t + 1) else ptT (dtx R) 1 ++ exT t
def ExT (k b n e : Int) (t : List UInt8) : Prop := e = askE k b n ∧ (e ≠ 0 → t = []) ∧ (e = 0 → ∃ d body, kd k = some d ∧ b < 2 * d.S ∧ t = wdT d b body ∧ (b % d.S = 0 → body = ptT (zsT (n + 1)) 1 ++ exT 0) ∧
 (0 < b % d.S → b % d.S < d.I → ∃ x, TopR (fX d (b % d.S)) (fY d (b % d.S)) x ∧ body = exB (rnE (fN (fX d (b % d.S)) (-(n - x))) (fD (fY d (b % d.S)) (-(n - x)))) n x))
theorem ExT.unique {k b n e e' : Int} {t t' : List UInt8} (hb : 0 ≤ b) (h : ExT k b n e t) (g : ExT k b n e' t') : e = e' ∧ t = t' := by
 have he : e = e' := h.1.trans g.1.symm
 subst he
 refine ⟨rfl, ?_⟩
 by_cases h0 : e = 0
 ·obtain ⟨d, bd, hd, _, h1, h2, h3⟩ := h.2.2 h0
  obtain ⟨d', bd', hd', _, g1, g2, g3⟩ := g.2.2 h0
  rw [hd] at hd'
  cases hd'
  have hbd := d.bd
  have hm := Int.emod_nonneg b (show d.S ≠ 0 by omega)
  rcases Int.lt_or_le (b % d.S) d.I with h4 | h4
  ·rcases Int.lt_or_eq_of_le hm with h5 | h5
   ·obtain ⟨x, hx, e1⟩ := h3 h5 h4
    obtain ⟨x', hx', e1'⟩ := g3 h5 h4
    obtain rfl := hx.unique (fY_pos _ _) hx'
    rw [h1, g1, e1, e1']
   ·rw [h1, g1, h2 h5.symm, g2 h5.symm]
  ·rw [h1, g1]
   exact wdT_over h4
 ·rw [h.2.1 h0, g.2.1 h0]
end Go.Proofs.YtojjlipcjdaejaaGreatDoor.W
