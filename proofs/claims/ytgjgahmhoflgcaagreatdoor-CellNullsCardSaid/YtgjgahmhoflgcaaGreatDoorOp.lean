/- arguments that are rows of rows -/
import Derived.Test.YtgjgahmhoflgcaaGreatDoorVx
import Derived.Test.YtgjgahmhoflgcaaGreatDoorVr
set_option linter.unusedVariables false
set_option linter.unusedSimpArgs false
set_option maxRecDepth 10000
namespace Go.Proofs.YtgjgahmhoflgcaaGreatDoor.W
open Go.Vc Go.RowKit
open Go.ChangeShapes Go.WideShapes Go.ChangeAt Go.RowKit
section
variable {H : Type} {enc : TypeId × Value → H} {P : Program} {W W' : World}
end
end Go.Proofs.YtgjgahmhoflgcaaGreatDoor.W
