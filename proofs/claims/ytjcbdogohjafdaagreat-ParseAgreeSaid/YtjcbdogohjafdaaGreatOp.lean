/- arguments that are rows of rows -/
import Derived.Test.YtjcbdogohjafdaaGreatVx
import Derived.Test.YtjcbdogohjafdaaGreatVr
set_option linter.unusedVariables false
set_option linter.unusedSimpArgs false
set_option maxRecDepth 10000
namespace Go.Proofs.YtjcbdogohjafdaaGreat.W
open Go.Vc Go.RowKit
open Go.ChangeShapes Go.WideShapes Go.ChangeAt Go.RowKit
section
variable {H : Type} {enc : TypeId × Value → H} {P : Program} {W W' : World}
end
end Go.Proofs.YtjcbdogohjafdaaGreat.W
