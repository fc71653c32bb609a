/- facts on types of the translation, each closed -/
import Derived.Test.YtgfkagaacdblbaaVk
import Derived.Test.YtgfkagaacdblbaaProg
namespace Go.Proofs.Ytgfkagaacdblbaa.W
open Go.Vc
noncomputable abbrev P : Program := Try.prog
theorem fo77_0 : fieldOff P 77 0 = some 0 := by kernel_rfl
theorem fo77_1 : fieldOff P 77 1 = some 1 := by kernel_rfl
theorem pl77 : places P 77 = some [(0, 1), (1, 1)] := by kernel_rfl
theorem ta77 : (P.info? 77).map (fun i => i.zero.map (·.cells.toList)) = some (some [(.int .u64 0), (.int .u64 0)]) := by kernel_rfl
theorem ta95 : (P.info? 95).map (fun i => i.zero.map (·.cells.toList)) = some (some [(.slice none 0 0)]) := by kernel_rfl
theorem ti75 : (P.info? 75).map (fun i => (i.zero, i.size, i.bytes)) = some (some (.int .u64 0), 1, 8) := by kernel_rfl
theorem ti77 : (P.info? 77).map (fun i => (i.zero, i.size, i.bytes)) = some (some (.agg #[(.int .u64 0), (.int .u64 0)]), 2, 16) := by kernel_rfl
theorem tz75 : (P.info? 75).map (·.size) = some 1 := by kernel_rfl
theorem tz77 : (P.info? 77).map (·.size) = some 2 := by kernel_rfl
theorem tz95 : (P.info? 95).map (·.size) = some 1 := by kernel_rfl
end Go.Proofs.Ytgfkagaacdblbaa.W
