/- facts on types of the translation, each closed -/
import Derived.Test.YtidbonodfmicgaaVh
import Derived.Test.YtidbonodfmicgaaProg
namespace Go.Proofs.Ytidbonodfmicgaa.W
open Go.Vc
noncomputable abbrev P : Program := Try.prog
theorem fl34 : flatT P 34 = some [(0, .bool), (1, .int .u64), (2, .int .i64)] := by kernel_rfl
theorem fo34_0 : fieldOff P 34 0 = some 0 := by kernel_rfl
theorem fo34_1 : fieldOff P 34 1 = some 1 := by kernel_rfl
theorem fo34_2 : fieldOff P 34 2 = some 2 := by kernel_rfl
theorem fo68_0 : fieldOff P 68 0 = some 0 := by kernel_rfl
theorem fo68_1 : fieldOff P 68 1 = some 1 := by kernel_rfl
theorem fo68_2 : fieldOff P 68 2 = some 2 := by kernel_rfl
theorem fo92_0 : fieldOff P 92 0 = some 0 := by kernel_rfl
theorem fo92_1 : fieldOff P 92 1 = some 1 := by kernel_rfl
theorem pl34 : places P 34 = some [(0, 1), (1, 1), (2, 1)] := by kernel_rfl
theorem pl68 : places P 68 = some [(0, 1), (1, 1), (2, 1)] := by kernel_rfl
theorem pl92 : places P 92 = some [(0, 1), (1, 3)] := by kernel_rfl
theorem ta34 : (P.info? 34).map (fun i => i.zero.map (·.cells.toList)) = some (some [(.bool false), (.int .u64 0), (.int .i64 0)]) := by kernel_rfl
theorem ta68 : (P.info? 68).map (fun i => i.zero.map (·.cells.toList)) = some (some [(.int .i64 0), (.int .i64 0), (.int .i64 0)]) := by kernel_rfl
theorem ta92 : (P.info? 92).map (fun i => i.zero.map (·.cells.toList)) = some (some [(.int .i64 0), (.int .i64 0), (.int .i64 0), (.int .i64 0)]) := by kernel_rfl
theorem ta93 : (P.info? 93).map (fun i => i.zero.map (·.cells.toList)) = some (some [(.int .i64 0), (.int .i64 0), (.int .i64 0), (.int .i64 0), (.int .i64 0), (.int .i64 0), (.int .i64 0), (.int .i64 0)]) := by kernel_rfl
theorem ti24 : (P.info? 24).map (fun i => (i.zero, i.size, i.bytes)) = some (some (.int .u64 0), 1, 8) := by kernel_rfl
theorem ti3 : (P.info? 3).map (fun i => (i.zero, i.size, i.bytes)) = some (some (.int .i64 0), 1, 8) := by kernel_rfl
theorem tz24 : (P.info? 24).map (·.size) = some 1 := by kernel_rfl
theorem tz3 : (P.info? 3).map (·.size) = some 1 := by kernel_rfl
theorem tz34 : (P.info? 34).map (·.size) = some 3 := by kernel_rfl
theorem tz68 : (P.info? 68).map (·.size) = some 3 := by kernel_rfl
theorem tz92 : (P.info? 92).map (·.size) = some 4 := by kernel_rfl
theorem tz93 : (P.info? 93).map (·.size) = some 8 := by kernel_rfl
end Go.Proofs.Ytidbonodfmicgaa.W
