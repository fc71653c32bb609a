/- walks of the reference's Over, DivMod -/
import Derived.Test.YtgfkagaacdblbaaRd
import Derived.Test.YtgfkagaacdblbaaFm
set_option linter.unusedVariables false
set_option linter.unusedSimpArgs false
set_option maxRecDepth 10000
namespace Go.Proofs.Ytgfkagaacdblbaa.W
open Go.Vc Go.RowKit
end Go.Proofs.Ytgfkagaacdblbaa.W
