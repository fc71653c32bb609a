/- walks of mintagekeep.LendWords, BackWords -/
import Derived.Test.YtjkaahnadaapoaaLa
import Derived.Test.YtjkaahnadaapoaaVb
set_option linter.unusedVariables false
set_option linter.unusedSimpArgs false
set_option maxRecDepth 10000
namespace Go.Proofs.Ytjkaahnadaapoaa.W
open Go.Vc Go.RowKit
end Go.Proofs.Ytjkaahnadaapoaa.W
