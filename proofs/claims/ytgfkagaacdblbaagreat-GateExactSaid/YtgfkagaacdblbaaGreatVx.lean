/- facts on types of the translation, each closed -/
import Derived.Test.YtgfkagaacdblbaaGreatVk
import Derived.Test.YtgfkagaacdblbaaGreatProg
namespace Go.Proofs.YtgfkagaacdblbaaGreat.W
open Go.Vc
noncomputable abbrev P : Program := Tryz.prog
theorem fo85_0 : Z0C P 85 0 = some 0 := by kernel_rfl
theorem fo85_1 : Z0C P 85 1 = some 1 := by kernel_rfl
theorem pl85 : Z2V P 85 = some [(0, 1), (1, 1)] := by kernel_rfl
theorem ta127 : (P.info? 127).map (fun i => i.zero.map (·.cells.toList)) = some (some [(.slice none 0 0)]) := by kernel_rfl
theorem ta85 : (P.info? 85).map (fun i => i.zero.map (·.cells.toList)) = some (some [(.int .u64 0), (.int .u64 0)]) := by kernel_rfl
theorem ti3 : (P.info? 3).map (fun i => (i.zero, i.size, i.bytes)) = some (some (.int .i64 0), 1, 8) := by kernel_rfl
theorem ti83 : (P.info? 83).map (fun i => (i.zero, i.size, i.bytes)) = some (some (.int .u64 0), 1, 8) := by kernel_rfl
theorem ti85 : (P.info? 85).map (fun i => (i.zero, i.size, i.bytes)) = some (some (.agg #[(.int .u64 0), (.int .u64 0)]), 2, 16) := by kernel_rfl
theorem tz127 : (P.info? 127).map (·.size) = some 1 := by kernel_rfl
theorem tz3 : (P.info? 3).map (·.size) = some 1 := by kernel_rfl
theorem tz83 : (P.info? 83).map (·.size) = some 1 := by kernel_rfl
theorem tz85 : (P.info? 85).map (·.size) = some 2 := by kernel_rfl
end Go.Proofs.YtgfkagaacdblbaaGreat.W
