/- facts on types of the translation, each closed -/
import Derived.Test.YtmcbdgpcbcldjaaVk
import Derived.Test.YtmcbdgpcbcldjaaProg
namespace Go.Proofs.Ytmcbdgpcbcldjaa.W
open Go.Vc
noncomputable abbrev P : Program := Try.prog
theorem fo27_0 : fieldOff P 27 0 = some 0 := by kernel_rfl
theorem fo27_1 : fieldOff P 27 1 = some 1 := by kernel_rfl
theorem fo27_2 : fieldOff P 27 2 = some 2 := by kernel_rfl
theorem fo61_0 : fieldOff P 61 0 = some 0 := by kernel_rfl
theorem fo61_1 : fieldOff P 61 1 = some 1 := by kernel_rfl
theorem fo61_2 : fieldOff P 61 2 = some 2 := by kernel_rfl
theorem fo68_0 : fieldOff P 68 0 = some 0 := by kernel_rfl
theorem fo68_1 : fieldOff P 68 1 = some 1 := by kernel_rfl
theorem fo70_0 : fieldOff P 70 0 = some 0 := by kernel_rfl
theorem fo70_1 : fieldOff P 70 1 = some 2 := by kernel_rfl
theorem fo70_2 : fieldOff P 70 2 = some 3 := by kernel_rfl
theorem fo92_0 : fieldOff P 92 0 = some 0 := by kernel_rfl
theorem fo92_1 : fieldOff P 92 1 = some 1 := by kernel_rfl
theorem pl27 : places P 27 = some [(0, 1), (1, 1), (2, 1)] := by kernel_rfl
theorem pl61 : places P 61 = some [(0, 1), (1, 1), (2, 1)] := by kernel_rfl
theorem pl68 : places P 68 = some [(0, 1), (1, 1)] := by kernel_rfl
theorem pl70 : places P 70 = some [(0, 2), (2, 1), (3, 1)] := by kernel_rfl
theorem pl92 : places P 92 = some [(0, 1), (1, 3)] := by kernel_rfl
theorem ta27 : (P.info? 27).map (fun i => i.zero.map (·.cells.toList)) = some (some [(.bool false), (.int .u64 0), (.int .i64 0)]) := by kernel_rfl
theorem ta61 : (P.info? 61).map (fun i => i.zero.map (·.cells.toList)) = some (some [(.int .i64 0), (.int .i64 0), (.int .i64 0)]) := by kernel_rfl
theorem ta68 : (P.info? 68).map (fun i => i.zero.map (·.cells.toList)) = some (some [(.slice none 0 0), (.slice none 0 0)]) := by kernel_rfl
theorem ta70 : (P.info? 70).map (fun i => i.zero.map (·.cells.toList)) = some (some [(.slice none 0 0), (.slice none 0 0), (.int .i64 0), (.int .u64 0)]) := by kernel_rfl
theorem ta92 : (P.info? 92).map (fun i => i.zero.map (·.cells.toList)) = some (some [(.int .i64 0), (.int .i64 0), (.int .i64 0), (.int .i64 0)]) := by kernel_rfl
theorem ta93 : (P.info? 93).map (fun i => i.zero.map (·.cells.toList)) = some (some [(.int .i64 0), (.int .i64 0), (.int .i64 0), (.int .i64 0), (.int .i64 0), (.int .i64 0), (.int .i64 0), (.int .i64 0)]) := by kernel_rfl
theorem ti22 : (P.info? 22).map (fun i => (i.zero, i.size, i.bytes)) = some (some (.int .u64 0), 1, 8) := by kernel_rfl
theorem ti3 : (P.info? 3).map (fun i => (i.zero, i.size, i.bytes)) = some (some (.int .i64 0), 1, 8) := by kernel_rfl
theorem ti5 : (P.info? 5).map (fun i => (i.zero, i.size, i.bytes)) = some (some (.int .u8 0), 1, 1) := by kernel_rfl
theorem tz22 : (P.info? 22).map (·.size) = some 1 := by kernel_rfl
theorem tz27 : (P.info? 27).map (·.size) = some 3 := by kernel_rfl
theorem tz3 : (P.info? 3).map (·.size) = some 1 := by kernel_rfl
theorem tz4 : (P.info? 4).map (·.size) = some 1 := by kernel_rfl
theorem tz5 : (P.info? 5).map (·.size) = some 1 := by kernel_rfl
theorem tz61 : (P.info? 61).map (·.size) = some 3 := by kernel_rfl
theorem tz66 : (P.info? 66).map (·.size) = some 1 := by kernel_rfl
theorem tz68 : (P.info? 68).map (·.size) = some 2 := by kernel_rfl
theorem tz70 : (P.info? 70).map (·.size) = some 4 := by kernel_rfl
theorem tz92 : (P.info? 92).map (·.size) = some 4 := by kernel_rfl
theorem tz93 : (P.info? 93).map (·.size) = some 8 := by kernel_rfl
end Go.Proofs.Ytmcbdgpcbcldjaa.W
