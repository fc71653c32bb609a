/- walk of nat.Parse -/
import Derived.Test.YtggdkplphfofkaaGreatFe
import Derived.Test.YtggdkplphfofkaaGreatRc
set_option linter.unusedVariables false
set_option linter.unusedSimpArgs false
set_option maxRecDepth 10000
namespace Go.Proofs.YtggdkplphfofkaaGreat.W
open Go.Vc Go.RowKit
end Go.Proofs.YtggdkplphfofkaaGreat.W
