/- walk of nat.Parse -/
import Derived.Test.YtojjlipcjdaejaaDoorFe
import Derived.Test.YtojjlipcjdaejaaDoorRc
set_option linter.unusedVariables false
set_option linter.unusedSimpArgs false
set_option maxRecDepth 10000
namespace Go.Proofs.YtojjlipcjdaejaaDoor.W
open Go.Vc Go.RowKit
theorem ten19 : (10 : Int) ^ 19 = 10000000000000000000 := by decide
end Go.Proofs.YtojjlipcjdaejaaDoor.W
