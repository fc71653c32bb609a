/- how BitsJoins' and BitsRounds' arguments are opened -/
import Derived.Test.YtidbonodfmicgaaGj
set_option linter.unusedVariables false
set_option linter.unusedSimpArgs false
set_option maxRecDepth 10000
namespace Go.Proofs.Ytidbonodfmicgaa.W
open Go.Vc Go.RowKit

theorem three_cells {cs : Array Value} {v0 v1 v2 : Value} (h : cs.toList.length = 3) (e0 : (cs.toList.drop 0).take 1 = [v0]) (e1 : (cs.toList.drop 1).take 1 = [v1]) (e2 : (cs.toList.drop 2).take 1 = [v2]) : cs = #[v0, v1, v2] := by
  obtain ⟨l⟩ := cs
  match l, h with
  | [a0, a1, a2], _ => simp_all
theorem open_bool {P : Program} {W : World} {r : Reach} {b0 : Nat} {t : TypeId} {v : Value} (ht : P.underlying t = some .bool) (hval : Value.okWide P W r b0 t v) : ∃ b, v = .bool b := by
  have h : Cell.okWide P W r b0 t v := by simpa only [Value.okWide, ht] using hval
  simp only [Cell.okWide, ht] at h
  cases v <;> simp_all [Cell.ok]

end Go.Proofs.Ytidbonodfmicgaa.W
