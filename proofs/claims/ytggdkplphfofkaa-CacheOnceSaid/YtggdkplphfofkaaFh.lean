/- walk of nat.Text -/
import Derived.Test.YtggdkplphfofkaaFg
set_option linter.unusedVariables false
set_option linter.unusedSimpArgs false
set_option maxRecDepth 10000
namespace Go.Proofs.Ytggdkplphfofkaa.W
open Go.Vc Go.RowKit

theorem trim_turn {v : Value} {l : List Int} (hU : U l) (hL : l.length ≤ 17592186044416) {w : World} (hv : IV w v (ints .u64 l)) : CallsV P 72 [v] w fun r w' => ∃ v', r = v' ∧ Turn w w' (As.ri 28 .u64 v l) (As.ri 28 .u64 v' (Ma.tr l)) := by
  obtain ⟨A, c, rfl, hc, hs⟩ := hv
  refine (trim A c l hU hL w ⟨A, c, rfl, hc, hs⟩).mono ?_
  rintro r _ ⟨rfl, rfl⟩
  exact ⟨_, rfl, fun w0 B M σ σ' u hw => trim_st u hw⟩
theorem nv_blen {l : List Int} (h : U l) : Ma.blen (nv l) ≤ 64 * l.length := by
  have h1 : nv l < _ := Ma.vb_lt (show (0 : Int) < 18446744073709551616 by omega) h.dg
  rw [show (18446744073709551616 : Int) = 2 ^ 64 from rfl, ← Int.pow_mul] at h1
  have := (Ma.blen_le_iff h.nv_nonneg (64 * l.length)).2 h1
  omega


theorem getD_set {α : Type} (l : List α) (i k : Nat) (x d : α) (h : i < l.length) : (l.set i x).getD k d = if i = k then x else l.getD k d := by
  by_cases e : i = k
  · subst e; simp [List.getD, h]
  · simp [List.getD, List.getElem?_set_ne e, e]
/-- turned about -/
theorem rev_of {l o : List UInt8} (hl : o.length = l.length) (h : ∀ k, k < l.length → o.getD k 0 = l.getD (l.length - 1 - k) 0) : o = l.reverse := by
  refine List.ext_getElem (by simp [hl]) fun k h1 h2 => ?_
  have := h k (by omega)
  have e1 : o.getD k 0 = o[k] := by simp [List.getD, h1]
  have e2 : l.getD (l.length - 1 - k) 0 = l[l.length - 1 - k]'(by omega) := by simp [List.getD, show l.length - 1 - k < l.length by omega]
  rw [List.getElem_reverse, ← e1, this, e2]

end Go.Proofs.Ytggdkplphfofkaa.W
