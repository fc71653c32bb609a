/- plain facts: what is printed is a number's text -/
import Derived.Test.YtfomhfbmmjhljaaGreatDoorQj
import Derived.Test.YtfomhfbmmjhljaaGreatDoorJf
set_option linter.unusedVariables false
set_option linter.unusedSimpArgs false
set_option maxRecDepth 10000
namespace Go.Proofs.YtfomhfbmmjhljaaGreatDoor.W
open Go.Vc Go.RowKit
end Go.Proofs.YtfomhfbmmjhljaaGreatDoor.W
