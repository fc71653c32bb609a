/- the bits chapter's walks together -/
import Derived.Test.YtmcbdgpcbcldjaaGf
import Derived.Test.YtmcbdgpcbcldjaaGg
import Derived.Test.YtmcbdgpcbcldjaaVr
set_option linter.unusedVariables false
set_option linter.unusedSimpArgs false
set_option maxRecDepth 10000
namespace Go.Proofs.Ytmcbdgpcbcldjaa.W
open Go.Vc Go.RowKit
end Go.Proofs.Ytmcbdgpcbcldjaa.W
