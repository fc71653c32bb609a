/- arguments that are rows of rows -/
import Derived.Test.YtfomhfbmmjhljaaGreatDoorVx
import Derived.Test.YtfomhfbmmjhljaaGreatDoorVr
set_option linter.unusedVariables false
set_option linter.unusedSimpArgs false
set_option maxRecDepth 10000
namespace Go.Proofs.YtfomhfbmmjhljaaGreatDoor.W
open Go.Vc Go.RowKit
open Go.ChangeShapes Go.WideShapes Go.ChangeAt Go.RowKit
section
variable {H : Type} {enc : TypeId × Value → H} {P : Program} {W W' : World}
end
end Go.Proofs.YtfomhfbmmjhljaaGreatDoor.W
