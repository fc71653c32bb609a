/- the scanner as a function; walks of wakes, ScanReads -/
import Derived.Test.YtgjgahmhoflgcaaGreatDoorSf
import Derived.Test.YtgjgahmhoflgcaaGreatDoorLp
import Derived.Test.YtgjgahmhoflgcaaGreatDoorVr
set_option linter.unusedVariables false
set_option linter.unusedSimpArgs false
set_option maxRecDepth 10000
namespace Go.Proofs.YtgjgahmhoflgcaaGreatDoor.W
open Go.Vc Go.RowKit
end Go.Proofs.YtgjgahmhoflgcaaGreatDoor.W
