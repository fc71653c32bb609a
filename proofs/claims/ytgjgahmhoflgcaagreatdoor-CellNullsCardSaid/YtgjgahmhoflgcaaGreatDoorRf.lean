/- walks of the reference's Over, DivMod -/
import Derived.Test.YtgjgahmhoflgcaaGreatDoorFm
set_option linter.unusedVariables false
set_option linter.unusedSimpArgs false
set_option maxRecDepth 10000
namespace Go.Proofs.YtgjgahmhoflgcaaGreatDoor.W
open Go.Vc Go.RowKit
end Go.Proofs.YtgjgahmhoflgcaaGreatDoor.W
