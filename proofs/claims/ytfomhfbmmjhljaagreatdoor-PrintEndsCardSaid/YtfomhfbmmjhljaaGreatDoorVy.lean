/- facts on types, the later ones -/
import Derived.Test.YtfomhfbmmjhljaaGreatDoorVx
namespace Go.Proofs.YtfomhfbmmjhljaaGreatDoor.W
open Go.Vc
theorem ti9 : (P.info? 9).map (fun i => (i.zero, i.size, i.bytes)) = some (some (str []), 1, 16) := by kernel_rfl
theorem tz9 : (P.info? 9).map (·.size) = some 1 := by kernel_rfl
end Go.Proofs.YtfomhfbmmjhljaaGreatDoor.W
