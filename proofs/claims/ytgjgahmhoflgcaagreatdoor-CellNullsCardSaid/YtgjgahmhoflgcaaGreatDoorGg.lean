/- walks of the document's bits: shapes, Class, Split, Next, Prev, Cmp -/
import Derived.Test.YtgjgahmhoflgcaaGreatDoorVr
import Derived.Test.YtgjgahmhoflgcaaGreatDoorGd
set_option linter.unusedVariables false
set_option linter.unusedSimpArgs false
set_option maxRecDepth 10000
namespace Go.Proofs.YtgjgahmhoflgcaaGreatDoor.W
open Go.Vc Go.RowKit
def Kd.X : Kd → Int | .f32 => 256 | .f64 => 2048
theorem Z6K (x : Int) : nv [x] = x := by show x + _ * 0 = x; omega
end Go.Proofs.YtgjgahmhoflgcaaGreatDoor.W
