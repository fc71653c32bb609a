/- walk of nat.Text -/
import Derived.Test.YtggdkplphfofkaaGreatFg
set_option linter.unusedVariables false
set_option linter.unusedSimpArgs false
set_option maxRecDepth 10000
namespace Go.Proofs.YtggdkplphfofkaaGreat.W
open Go.Vc Go.RowKit
theorem trim_turn {v : Value} {l : List Int} (hU : U l) (hL : l.length ≤ 17592186044416) {w : World} (hv : IV w v (ints .u64 l)) : CallsV P 79 [v] w fun r w' => ∃ v', r = v' ∧ Turn w w' (As.ri 65 .u64 v l) (As.ri 65 .u64 v' (Ma.tr l)) := by
 obtain ⟨A, c, rfl, hc, hs⟩ := hv
 refine (trim A c l hU hL w ⟨A, c, rfl, hc, hs⟩).mono ?_
 rintro r _ ⟨rfl, rfl⟩
 exact ⟨_, rfl, fun w0 B M σ σ' u hw => trim_st u hw⟩
theorem getD_set {α : Type} (l : List α) (i k : Nat) (x d : α) (h : i < l.length) : (l.set i x).getD k d = if i = k then x else l.getD k d := by
 by_cases e : i = k
 ·subst e; simp [List.getD, h]
 ·simp [List.getD, List.getElem?_set_ne e, e]
end Go.Proofs.YtggdkplphfofkaaGreat.W
