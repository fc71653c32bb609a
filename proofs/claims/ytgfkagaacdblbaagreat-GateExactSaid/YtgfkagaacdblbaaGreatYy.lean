/- what hands have read is honest -/
import Derived.Test.YtgfkagaacdblbaaGreatYx
set_option linter.unusedVariables false
set_option linter.unusedSimpArgs false
set_option maxRecDepth 10000
namespace Go.Proofs.YtgfkagaacdblbaaGreat.W
open Go.Vc Go.RowKit
theorem Iv.at {ls : List (List Int)} {G : GW} (h : Iv ls G) {i : Nat} {l : List Int} (hl : ls[i]? = some l) : ∃ n, n ≤ l.length ∧ Z2J G (i : Int) = Z0Y (l.take n) ∧ (Z3c G (i : Int)).2.1 = (n : Int) ∧ ∀ k, k < n → (sgF G (Z0K (l.getD k 0)).1).done = true := by
 have hi : i < G.hs.length := by rw [h.lv.len]; exact (List.getElem?_eq_some_iff.1 hl).1
 have hg := List.getElem?_eq_getElem hi
 have ha := h.lv.ask i _ hg
 rw [hl] at ha
 have ha : l = (G.hs[i]).asks := by simpa using ha
 have ho := h.wf.hd i _ hg
 refine ⟨(G.hs[i]).nx, ?_, ?_, ?_, fun k hk => ?_⟩
 ·rw [ha]
  by_cases h4 : (G.hs[i]).line = 4
  ·exact Nat.le_of_eq (ho.en h4)
  exact Nat.le_of_lt (ho.nx h4)
 ·unfold Z2J
  rw [if_pos ZO, show ((i : Nat) : Int).toNat = i from rfl, hg, ha]
 ·unfold Z3c
  rw [if_pos ZO, show ((i : Nat) : Int).toNat = i from rfl, hg]
 have hd := ho.dn k hk
 rw [← ha] at hd
 have hb := Z2Y (l.getD k 0)
 unfold sgF
 rw [if_pos ZO]
 exact hd
end Go.Proofs.YtgfkagaacdblbaaGreat.W
