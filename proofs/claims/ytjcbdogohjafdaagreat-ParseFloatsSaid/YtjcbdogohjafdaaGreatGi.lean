/- walk of the law BitsOrder -/
import Derived.Test.YtjcbdogohjafdaaGreatGg
set_option linter.unusedVariables false
set_option linter.unusedSimpArgs false
set_option maxRecDepth 10000
namespace Go.Proofs.YtjcbdogohjafdaaGreat.W
open Go.Vc Go.RowKit
end Go.Proofs.YtjcbdogohjafdaaGreat.W
