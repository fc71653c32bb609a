/- facts on types of the translation, each closed -/
import Derived.Test.YtellpcjmpmcpoaaVk
import Derived.Test.YtellpcjmpmcpoaaProg
namespace Go.Proofs.Ytellpcjmpmcpoaa.W
open Go.Vc
noncomputable abbrev P : Program := Try.prog
theorem fl24 : flatT P 24 = some [(0, .int .u64), (1, .int .u64)] := by kernel_rfl
theorem fo24_0 : fieldOff P 24 0 = some 0 := by kernel_rfl
theorem fo24_1 : fieldOff P 24 1 = some 1 := by kernel_rfl
theorem pl24 : places P 24 = some [(0, 1), (1, 1)] := by kernel_rfl
theorem ta24 : (P.info? 24).map (fun i => i.zero.map (·.cells.toList)) = some (some [(.int .u64 0), (.int .u64 0)]) := by kernel_rfl
theorem ta50 : (P.info? 50).map (fun i => i.zero.map (·.cells.toList)) = some (some [(.slice none 0 0)]) := by kernel_rfl
theorem ti22 : (P.info? 22).map (fun i => (i.zero, i.size, i.bytes)) = some (some (.int .u64 0), 1, 8) := by kernel_rfl
theorem ti24 : (P.info? 24).map (fun i => (i.zero, i.size, i.bytes)) = some (some (.agg #[(.int .u64 0), (.int .u64 0)]), 2, 16) := by kernel_rfl
theorem ti3 : (P.info? 3).map (fun i => (i.zero, i.size, i.bytes)) = some (some (.int .i64 0), 1, 8) := by kernel_rfl
theorem tz22 : (P.info? 22).map (·.size) = some 1 := by kernel_rfl
theorem tz24 : (P.info? 24).map (·.size) = some 2 := by kernel_rfl
theorem tz3 : (P.info? 3).map (·.size) = some 1 := by kernel_rfl
theorem tz50 : (P.info? 50).map (·.size) = some 1 := by kernel_rfl
end Go.Proofs.Ytellpcjmpmcpoaa.W
