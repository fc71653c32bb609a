/- the law GateWaits -/
import Derived.Test.YtgfkagaacdblbaaGreatYz
set_option linter.unusedVariables false
set_option linter.unusedSimpArgs false
set_option maxRecDepth 10000
namespace Go.Proofs.YtgfkagaacdblbaaGreat.W
open Go.Vc Go.RowKit
theorem Iv.hand {ls : List (List Int)} {G : GW} (h : Iv ls G) {i : Nat} {l : List Int} (hl : ls[i]? = some l) : ∃ hd : Hd, G.hs[i]? = some hd ∧ hd.asks = l ∧ Z3c G (i : Int) = (hd.line, (hd.nx : Int), if hd.line = 2 ∨ hd.line = 3 then Z1d hd else -1) ∧ mayG G i = mayH hd (sgN G (Z0x hd)) ∧ (hd.line = 1 → hd.nx < l.length ∧ sgF G (Z0K (l.getD hd.nx 0)).1 = sgN G (Z0x hd)) := by
 have hi : i < G.hs.length := by rw [h.lv.len]; exact (List.getElem?_eq_some_iff.1 hl).1
 have hg := List.getElem?_eq_getElem hi
 have ha := h.lv.ask i _ hg
 rw [hl] at ha
 have ha : l = (G.hs[i]).asks := by simpa using ha
 have ho := h.wf.hd i _ hg
 refine ⟨_, hg, ha.symm, ?_, ?_, fun h1 => ⟨by rw [ha]; exact ho.nx ZO, ?_⟩⟩
 ·unfold Z3c
  rw [if_pos ZO, show ((i : Nat) : Int).toNat = i from rfl, hg]
 ·unfold mayG
  rw [hg]
 have hb := Z2Y (l.getD (G.hs[i]).nx 0)
 unfold sgF
 rw [if_pos ZO]
 unfold Z0x Z1d
 rw [← ha]
 rfl
theorem Z2W (G : GW) (n : Nat) : (Z1r G n).length ≤ n := by
 unfold Z1r
 exact Nat.le_trans (List.length_filter_le ..) (by simp)
end Go.Proofs.YtgfkagaacdblbaaGreat.W
