/- walks of the document's bits: shapes, Class, Split, Next, Prev, Cmp -/
import Derived.Test.YtjcbdogohjafdaaGreatVr
import Derived.Test.YtjcbdogohjafdaaGreatGd
set_option linter.unusedVariables false
set_option linter.unusedSimpArgs false
set_option maxRecDepth 10000
namespace Go.Proofs.YtjcbdogohjafdaaGreat.W
open Go.Vc Go.RowKit
def Kd.X : Kd → Int | .f32 => 256 | .f64 => 2048
theorem cmpI_le {a b : Int} : cmpI a b ≤ 0 ↔ a ≤ b := by unfold cmpI; (repeat' split) <;> omega
theorem Z3R (x : Int) : nv [x] = x := by show x + _ * 0 = x; omega
end Go.Proofs.YtjcbdogohjafdaaGreat.W
