/- facts on types of the translation, each closed -/
import Derived.Test.YtojjlipcjdaejaaDoorVk
import Derived.Test.YtojjlipcjdaejaaDoorProg
namespace Go.Proofs.YtojjlipcjdaejaaDoor.W
open Go.Vc
noncomputable abbrev P : Program := Tryd.prog
theorem fo105_0 : fieldOff P 105 0 = some 0 := by kernel_rfl
theorem fo105_1 : fieldOff P 105 1 = some 1 := by kernel_rfl
theorem fo30_0 : fieldOff P 30 0 = some 0 := by kernel_rfl
theorem fo30_1 : fieldOff P 30 1 = some 1 := by kernel_rfl
theorem fo30_2 : fieldOff P 30 2 = some 2 := by kernel_rfl
theorem fo52_0 : fieldOff P 52 0 = some 0 := by kernel_rfl
theorem fo58_0 : fieldOff P 58 0 = some 0 := by kernel_rfl
theorem fo58_1 : fieldOff P 58 1 = some 1 := by kernel_rfl
theorem fo58_2 : fieldOff P 58 2 = some 2 := by kernel_rfl
theorem fo81_0 : fieldOff P 81 0 = some 0 := by kernel_rfl
theorem fo81_1 : fieldOff P 81 1 = some 1 := by kernel_rfl
theorem fo83_0 : fieldOff P 83 0 = some 0 := by kernel_rfl
theorem fo83_1 : fieldOff P 83 1 = some 2 := by kernel_rfl
theorem fo83_2 : fieldOff P 83 2 = some 3 := by kernel_rfl
theorem pl105 : places P 105 = some [(0, 1), (1, 3)] := by kernel_rfl
theorem pl30 : places P 30 = some [(0, 1), (1, 1), (2, 1)] := by kernel_rfl
theorem pl52 : places P 52 = some [(0, 1)] := by kernel_rfl
theorem pl58 : places P 58 = some [(0, 1), (1, 1), (2, 1)] := by kernel_rfl
theorem pl81 : places P 81 = some [(0, 1), (1, 1)] := by kernel_rfl
theorem pl83 : places P 83 = some [(0, 2), (2, 1), (3, 1)] := by kernel_rfl
theorem ta105 : (P.info? 105).map (fun i => i.zero.map (·.cells.toList)) = some (some [(.int .i64 0), (.int .i64 0), (.int .i64 0), (.int .i64 0)]) := by kernel_rfl
theorem ta106 : (P.info? 106).map (fun i => i.zero.map (·.cells.toList)) = some (some [(.int .i64 0), (.int .i64 0), (.int .i64 0), (.int .i64 0), (.int .i64 0), (.int .i64 0), (.int .i64 0), (.int .i64 0)]) := by kernel_rfl
theorem ta113 : (P.info? 113).map (fun i => i.zero.map (·.cells.toList)) = some (some [(.int .u8 0), (.int .u8 0), (.int .u8 0), (.int .u8 0), (.int .u8 0), (.int .u8 0), (.int .u8 0), (.int .u8 0), (.int .u8 0), (.int .u8 0), (.int .u8 0), (.int .u8 0), (.int .u8 0), (.int .u8 0), (.int .u8 0), (.int .u8 0), (.int .u8 0), (.int .u8 0), (.int .u8 0), (.int .u8 0)]) := by kernel_rfl
theorem ta30 : (P.info? 30).map (fun i => i.zero.map (·.cells.toList)) = some (some [(.bool false), (.int .u64 0), (.int .i64 0)]) := by kernel_rfl
theorem ta52 : (P.info? 52).map (fun i => i.zero.map (·.cells.toList)) = some (some [(.slice none 0 0)]) := by kernel_rfl
theorem ta58 : (P.info? 58).map (fun i => i.zero.map (·.cells.toList)) = some (some [(.int .i64 0), (.int .i64 0), (.int .i64 0)]) := by kernel_rfl
theorem ta81 : (P.info? 81).map (fun i => i.zero.map (·.cells.toList)) = some (some [(.slice none 0 0), (.slice none 0 0)]) := by kernel_rfl
theorem ta83 : (P.info? 83).map (fun i => i.zero.map (·.cells.toList)) = some (some [(.slice none 0 0), (.slice none 0 0), (.int .i64 0), (.int .u64 0)]) := by kernel_rfl
theorem ti22 : (P.info? 22).map (fun i => (i.zero, i.size, i.bytes)) = some (some (.int .u64 0), 1, 8) := by kernel_rfl
theorem ti3 : (P.info? 3).map (fun i => (i.zero, i.size, i.bytes)) = some (some (.int .i64 0), 1, 8) := by kernel_rfl
theorem ti5 : (P.info? 5).map (fun i => (i.zero, i.size, i.bytes)) = some (some (.int .u8 0), 1, 1) := by kernel_rfl
theorem tz105 : (P.info? 105).map (·.size) = some 4 := by kernel_rfl
theorem tz106 : (P.info? 106).map (·.size) = some 8 := by kernel_rfl
theorem tz22 : (P.info? 22).map (·.size) = some 1 := by kernel_rfl
theorem tz25 : (P.info? 25).map (·.size) = some 1 := by kernel_rfl
theorem tz3 : (P.info? 3).map (·.size) = some 1 := by kernel_rfl
theorem tz30 : (P.info? 30).map (·.size) = some 3 := by kernel_rfl
theorem tz4 : (P.info? 4).map (·.size) = some 1 := by kernel_rfl
theorem tz5 : (P.info? 5).map (·.size) = some 1 := by kernel_rfl
theorem tz58 : (P.info? 58).map (·.size) = some 3 := by kernel_rfl
theorem tz62 : (P.info? 62).map (·.size) = some 1 := by kernel_rfl
theorem tz81 : (P.info? 81).map (·.size) = some 2 := by kernel_rfl
theorem tz83 : (P.info? 83).map (·.size) = some 4 := by kernel_rfl
end Go.Proofs.YtojjlipcjdaejaaDoor.W
