/- facts on types, the later ones -/
import Derived.Test.YtgjgahmhoflgcaaGreatDoorVx
namespace Go.Proofs.YtgjgahmhoflgcaaGreatDoor.W
open Go.Vc
theorem fo235_0 : Z0C P 235 0 = some 0 := by kernel_rfl
theorem fo235_1 : Z0C P 235 1 = some 1 := by kernel_rfl
theorem Z5O : Z0C P 239 0 = some 0 := by kernel_rfl
theorem Z56 : Z0C P 239 1 = some 1 := by kernel_rfl
theorem Z5p : Z0C P 23 0 = some 0 := by kernel_rfl
theorem fo23_1 : Z0C P 23 1 = some 1 := by kernel_rfl
theorem fo52_2 : Z0C P 52 2 = some 2 := by kernel_rfl
theorem Z6e : Z0C P 56 1 = some 1 := by kernel_rfl
theorem fo56_2 : Z0C P 56 2 = some 3 := by kernel_rfl
theorem fo58_2 : Z0C P 58 2 = some 2 := by kernel_rfl
theorem Z6Q : Z0C P 58 3 = some 3 := by kernel_rfl
theorem pl23 : Z2V P 23 = some [(0, 1), (1, 1)] := by kernel_rfl
theorem pl235 : Z2V P 235 = some [(0, 1), (1, 1)] := by kernel_rfl
theorem pl52 : Z2V P 52 = some [(0, 1), (1, 1), (2, 1), (3, 1)] := by kernel_rfl
theorem pl56 : Z2V P 56 = some [(0, 1), (1, 2), (3, 1)] := by kernel_rfl
theorem pl58 : Z2V P 58 = some [(0, 1), (1, 1), (2, 1), (3, 1)] := by kernel_rfl
theorem pl77 : Z2V P 77 = some [(0, 1), (1, 1)] := by kernel_rfl
theorem ta23 : (P.info? 23).map (fun i => i.zero.map (·.cells.toList)) = some (some [(.int .i64 0), (.int .i64 0)]) := by kernel_rfl
theorem ta235 : (P.info? 235).map (fun i => i.zero.map (·.cells.toList)) = some (some [(.int .i64 0), (.int .i64 0)]) := by kernel_rfl
theorem ta242 : (P.info? 242).map (fun i => i.zero.map (·.cells.toList)) = some (some [(.int .i64 0), (.int .i64 0), (.int .i64 0)]) := by kernel_rfl
theorem ta258 : (P.info? 258).map (fun i => i.zero.map (·.cells.toList)) = some (some [(.int .i64 0), (.int .i64 0), (.int .i64 0), (.int .i64 0), (.int .i64 0), (.int .i64 0), (.int .i64 0), (.int .i64 0), (.int .i64 0), (.int .i64 0), (.int .i64 0), (.int .i64 0)]) := by kernel_rfl
theorem ta260 : (P.info? 260).map (fun i => i.zero.map (·.cells.toList)) = some (some [(.int .u8 0), (.int .u8 0), (.int .u8 0), (.int .u8 0), (.int .u8 0), (.int .u8 0), (.int .u8 0), (.int .u8 0), (.int .u8 0), (.int .u8 0), (.int .u8 0), (.int .u8 0), (.int .u8 0), (.int .u8 0), (.int .u8 0), (.int .u8 0), (.int .u8 0), (.int .u8 0), (.int .u8 0), (.int .u8 0)]) := by kernel_rfl
theorem ta261 : (P.info? 261).map (fun i => i.zero.map (·.cells.toList)) = some (some [(.int .i64 0), (.int .i64 0), (.int .i64 0), (.int .i64 0)]) := by kernel_rfl
theorem ta52 : (P.info? 52).map (fun i => i.zero.map (·.cells.toList)) = some (some [(.int .u8 0), (.int .u8 0), (str []), (.bool false)]) := by kernel_rfl
theorem ta56 : (P.info? 56).map (fun i => i.zero.map (·.cells.toList)) = some (some [(str []), (.int .i64 0), (.int .i64 0), (.bool false)]) := by kernel_rfl
theorem ta58 : (P.info? 58).map (fun i => i.zero.map (·.cells.toList)) = some (some [(.int .i64 0), (.int .i64 0), (.bool false), (.slice none 0 0)]) := by kernel_rfl
theorem ta77 : (P.info? 77).map (fun i => i.zero.map (·.cells.toList)) = some (some [.nilFunc, .nilFunc]) := by kernel_rfl
theorem ta78 : (P.info? 78).map (fun i => i.zero.map (·.cells.toList)) = some (some [.nilFunc, .nilFunc, .nilFunc, .nilFunc, .nilFunc, .nilFunc, .nilFunc, .nilFunc, .nilFunc, .nilFunc, .nilFunc, .nilFunc, .nilFunc, .nilFunc, .nilFunc, .nilFunc, .nilFunc, .nilFunc, .nilFunc, .nilFunc, .nilFunc, .nilFunc, .nilFunc, .nilFunc, .nilFunc, .nilFunc, .nilFunc, .nilFunc, .nilFunc, .nilFunc, .nilFunc, .nilFunc, .nilFunc, .nilFunc]) := by kernel_rfl
theorem tz23 : (P.info? 23).map (·.size) = some 2 := by kernel_rfl
theorem tz235 : (P.info? 235).map (·.size) = some 2 := by kernel_rfl
theorem tz258 : (P.info? 258).map (·.size) = some 12 := by kernel_rfl
theorem tz261 : (P.info? 261).map (·.size) = some 4 := by kernel_rfl
theorem tz39 : (P.info? 39).map (·.size) = some 1 := by kernel_rfl
theorem tz52 : (P.info? 52).map (·.size) = some 4 := by kernel_rfl
theorem tz56 : (P.info? 56).map (·.size) = some 4 := by kernel_rfl
theorem tz58 : (P.info? 58).map (·.size) = some 4 := by kernel_rfl
theorem tz77 : (P.info? 77).map (·.size) = some 2 := by kernel_rfl
theorem tz78 : (P.info? 78).map (·.size) = some 34 := by kernel_rfl
end Go.Proofs.YtgjgahmhoflgcaaGreatDoor.W
