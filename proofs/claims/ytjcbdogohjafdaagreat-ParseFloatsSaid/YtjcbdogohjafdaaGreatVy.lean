/- facts on types, the later ones -/
import Derived.Test.YtjcbdogohjafdaaGreatVx
namespace Go.Proofs.YtjcbdogohjafdaaGreat.W
open Go.Vc
theorem fo106_0 : Z0A P 106 0 = some 0 := by kernel_rfl
theorem Z30 : Z0A P 106 1 = some 1 := by kernel_rfl
theorem fo106_2 : Z0A P 106 2 = some 2 := by kernel_rfl
theorem Z18 : Z0A P 106 3 = some 3 := by kernel_rfl
theorem fo114_0 : Z0A P 114 0 = some 0 := by kernel_rfl
theorem fo114_1 : Z0A P 114 1 = some 1 := by kernel_rfl
theorem fo114_2 : Z0A P 114 2 = some 2 := by kernel_rfl
theorem Z3F : Z0A P 40 0 = some 0 := by kernel_rfl
theorem Z5J : Z0A P 40 1 = some 1 := by kernel_rfl
theorem pl106 : Z2g P 106 = some [(0, 1), (1, 1), (2, 1), (3, 5)] := by kernel_rfl
theorem pl114 : Z2g P 114 = some [(0, 1), (1, 1), (2, 1)] := by kernel_rfl
theorem ta106 : (P.info? 106).map (fun i => i.zero.map (·.cells.toList)) = some (some [(.pointer none), (.int .i64 0), (.slice none 0 0), (.bool false), (.int .i64 0), (.int .u64 0), (.int .i64 0), (.bool false)]) := by kernel_rfl
theorem ta114 : (P.info? 114).map (fun i => i.zero.map (·.cells.toList)) = some (some [(.int .i64 0), .nilFunc, .nilFunc]) := by kernel_rfl
theorem ti114 : (P.info? 114).map (fun i => (i.zero, i.size, i.bytes)) = some (some (.agg #[(.int .i64 0), .nilFunc, .nilFunc]), 3, 24) := by kernel_rfl
theorem Z31 : (P.info? 106).map (·.size) = some 8 := by kernel_rfl
theorem tz114 : (P.info? 114).map (·.size) = some 3 := by kernel_rfl
end Go.Proofs.YtjcbdogohjafdaaGreat.W
