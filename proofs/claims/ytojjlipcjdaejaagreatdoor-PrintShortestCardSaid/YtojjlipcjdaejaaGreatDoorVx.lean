/- facts on types of the translation, each closed -/
import Derived.Test.YtojjlipcjdaejaaGreatDoorVk
import Derived.Test.YtojjlipcjdaejaaGreatDoorProg
namespace Go.Proofs.YtojjlipcjdaejaaGreatDoor.W
open Go.Vc
noncomputable abbrev P : Program := Tryz.prog
theorem fo122_0 : fieldOff P 122 0 = some 0 := by kernel_rfl
theorem fo122_1 : fieldOff P 122 1 = some 1 := by kernel_rfl
theorem fo122_2 : fieldOff P 122 2 = some 2 := by kernel_rfl
theorem fo154_0 : fieldOff P 154 0 = some 0 := by kernel_rfl
theorem fo154_1 : fieldOff P 154 1 = some 1 := by kernel_rfl
theorem fo37_0 : fieldOff P 37 0 = some 0 := by kernel_rfl
theorem fo37_1 : fieldOff P 37 1 = some 1 := by kernel_rfl
theorem fo37_2 : fieldOff P 37 2 = some 2 := by kernel_rfl
theorem fo37_4 : fieldOff P 37 4 = some 4 := by kernel_rfl
theorem fo47_0 : fieldOff P 47 0 = some 0 := by kernel_rfl
theorem fo47_1 : fieldOff P 47 1 = some 1 := by kernel_rfl
theorem fo47_2 : fieldOff P 47 2 = some 2 := by kernel_rfl
theorem fo51_0 : fieldOff P 51 0 = some 0 := by kernel_rfl
theorem fo85_0 : fieldOff P 85 0 = some 0 := by kernel_rfl
theorem fo85_1 : fieldOff P 85 1 = some 1 := by kernel_rfl
theorem fo87_0 : fieldOff P 87 0 = some 0 := by kernel_rfl
theorem fo87_1 : fieldOff P 87 1 = some 2 := by kernel_rfl
theorem fo87_2 : fieldOff P 87 2 = some 3 := by kernel_rfl
theorem pl122 : places P 122 = some [(0, 1), (1, 1), (2, 1)] := by kernel_rfl
theorem pl154 : places P 154 = some [(0, 1), (1, 3)] := by kernel_rfl
theorem pl37 : places P 37 = some [(0, 1), (1, 1), (2, 1), (3, 1), (4, 1), (5, 1)] := by kernel_rfl
theorem pl47 : places P 47 = some [(0, 1), (1, 1), (2, 1)] := by kernel_rfl
theorem pl51 : places P 51 = some [(0, 1)] := by kernel_rfl
theorem pl85 : places P 85 = some [(0, 1), (1, 1)] := by kernel_rfl
theorem pl87 : places P 87 = some [(0, 2), (2, 1), (3, 1)] := by kernel_rfl
theorem ta122 : (P.info? 122).map (fun i => i.zero.map (·.cells.toList)) = some (some [(.int .i64 0), (.int .i64 0), (.int .i64 0)]) := by kernel_rfl
theorem ta139 : (P.info? 139).map (fun i => i.zero.map (·.cells.toList)) = some (some [(.int .u8 0), (.int .u8 0), (.int .u8 0), (.int .u8 0), (.int .u8 0), (.int .u8 0), (.int .u8 0), (.int .u8 0), (.int .u8 0), (.int .u8 0), (.int .u8 0), (.int .u8 0), (.int .u8 0), (.int .u8 0), (.int .u8 0), (.int .u8 0), (.int .u8 0), (.int .u8 0), (.int .u8 0), (.int .u8 0)]) := by kernel_rfl
theorem ta154 : (P.info? 154).map (fun i => i.zero.map (·.cells.toList)) = some (some [(.int .i64 0), (.int .i64 0), (.int .i64 0), (.int .i64 0)]) := by kernel_rfl
theorem ta155 : (P.info? 155).map (fun i => i.zero.map (·.cells.toList)) = some (some [(.int .i64 0), (.int .i64 0), (.int .i64 0), (.int .i64 0), (.int .i64 0), (.int .i64 0), (.int .i64 0), (.int .i64 0)]) := by kernel_rfl
theorem ta37 : (P.info? 37).map (fun i => i.zero.map (·.cells.toList)) = some (some [(.slice none 0 0), (.slice none 0 0), (.slice none 0 0), (.slice none 0 0), (.slice none 0 0), (.slice none 0 0)]) := by kernel_rfl
theorem ta47 : (P.info? 47).map (fun i => i.zero.map (·.cells.toList)) = some (some [(.bool false), (.int .u64 0), (.int .i64 0)]) := by kernel_rfl
theorem ta51 : (P.info? 51).map (fun i => i.zero.map (·.cells.toList)) = some (some [(.slice none 0 0)]) := by kernel_rfl
theorem ta85 : (P.info? 85).map (fun i => i.zero.map (·.cells.toList)) = some (some [(.slice none 0 0), (.slice none 0 0)]) := by kernel_rfl
theorem ta87 : (P.info? 87).map (fun i => i.zero.map (·.cells.toList)) = some (some [(.slice none 0 0), (.slice none 0 0), (.int .i64 0), (.int .u64 0)]) := by kernel_rfl
theorem ti22 : (P.info? 22).map (fun i => (i.zero, i.size, i.bytes)) = some (some (.int .u64 0), 1, 8) := by kernel_rfl
theorem ti24 : (P.info? 24).map (fun i => (i.zero, i.size, i.bytes)) = some (some (.slice none 0 0), 1, 24) := by kernel_rfl
theorem ti3 : (P.info? 3).map (fun i => (i.zero, i.size, i.bytes)) = some (some (.int .i64 0), 1, 8) := by kernel_rfl
theorem ti5 : (P.info? 5).map (fun i => (i.zero, i.size, i.bytes)) = some (some (.int .u8 0), 1, 1) := by kernel_rfl
theorem tz122 : (P.info? 122).map (·.size) = some 3 := by kernel_rfl
theorem tz154 : (P.info? 154).map (·.size) = some 4 := by kernel_rfl
theorem tz155 : (P.info? 155).map (·.size) = some 8 := by kernel_rfl
theorem tz22 : (P.info? 22).map (·.size) = some 1 := by kernel_rfl
theorem tz24 : (P.info? 24).map (·.size) = some 1 := by kernel_rfl
theorem tz3 : (P.info? 3).map (·.size) = some 1 := by kernel_rfl
theorem tz33 : (P.info? 33).map (·.size) = some 1 := by kernel_rfl
theorem tz4 : (P.info? 4).map (·.size) = some 1 := by kernel_rfl
theorem tz47 : (P.info? 47).map (·.size) = some 3 := by kernel_rfl
theorem tz5 : (P.info? 5).map (·.size) = some 1 := by kernel_rfl
theorem tz83 : (P.info? 83).map (·.size) = some 1 := by kernel_rfl
theorem tz85 : (P.info? 85).map (·.size) = some 2 := by kernel_rfl
theorem tz87 : (P.info? 87).map (·.size) = some 4 := by kernel_rfl
end Go.Proofs.YtojjlipcjdaejaaGreatDoor.W
