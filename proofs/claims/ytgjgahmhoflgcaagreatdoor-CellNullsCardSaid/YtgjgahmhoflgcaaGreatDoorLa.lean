/- walks of mintagekeep.Words and of the laws' small parts -/
import Derived.Test.YtgjgahmhoflgcaaGreatDoorVr
import Derived.Test.YtgjgahmhoflgcaaGreatDoorFf
set_option linter.unusedVariables false
set_option linter.unusedSimpArgs false
set_option maxRecDepth 10000
namespace Go.Proofs.YtgjgahmhoflgcaaGreatDoor.W
open Go.Vc Go.RowKit
theorem cnU {l : List Int} {n : Int} (h : Ma.Cn 18446744073709551616 l n) : U l := U.of_dg h.dg
end Go.Proofs.YtgjgahmhoflgcaaGreatDoor.W
