/- facts on types, the later ones -/
import Derived.Test.YtfomhfbmmjhljaaGreatDoorVx
namespace Go.Proofs.YtfomhfbmmjhljaaGreatDoor.W
open Go.Vc
end Go.Proofs.YtfomhfbmmjhljaaGreatDoor.W
