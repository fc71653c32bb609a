/- facts on types of the translation, each closed -/
import Derived.Test.YtggdkplphfofkaaVk
import Derived.Test.YtggdkplphfofkaaProg
namespace Go.Proofs.Ytggdkplphfofkaa.W
open Go.Vc
noncomputable abbrev P : Program := Try.prog
theorem fl30 : flatT P 30 = some [(0, .int .u64), (1, .int .u64)] := by kernel_rfl
theorem fo30_0 : fieldOff P 30 0 = some 0 := by kernel_rfl
theorem fo30_1 : fieldOff P 30 1 = some 1 := by kernel_rfl
theorem fo66_0 : fieldOff P 66 0 = some 0 := by kernel_rfl
theorem fo66_1 : fieldOff P 66 1 = some 3 := by kernel_rfl
theorem fo66_2 : fieldOff P 66 2 = some 4 := by kernel_rfl
theorem fo69_0 : fieldOff P 69 0 = some 0 := by kernel_rfl
theorem fo73_0 : fieldOff P 73 0 = some 0 := by kernel_rfl
theorem fo73_1 : fieldOff P 73 1 = some 2 := by kernel_rfl
theorem pl30 : places P 30 = some [(0, 1), (1, 1)] := by kernel_rfl
theorem pl69 : places P 69 = some [(0, 205)] := by kernel_rfl
theorem pl73 : places P 73 = some [(0, 2), (2, 1)] := by kernel_rfl
theorem ta100 : (P.info? 100).map (fun i => i.zero.map (·.cells.toList)) = some (some [(.slice none 0 0)]) := by kernel_rfl
theorem ta30 : (P.info? 30).map (fun i => i.zero.map (·.cells.toList)) = some (some [(.int .u64 0), (.int .u64 0)]) := by kernel_rfl
theorem ta69 : (P.info? 69).map (fun i => i.zero.map (·.cells.toList)) = some (some [(.int .u32 0), (.int .i32 0), (.int .u32 0), (.int .i64 0), (.pointer none), (.int .u32 0), (.int .i32 0), (.int .u32 0), (.int .i64 0), (.pointer none), (.int .u32 0), (.int .i32 0), (.int .u32 0), (.int .i64 0), (.pointer none), (.int .u32 0), (.int .i32 0), (.int .u32 0), (.int .i64 0), (.pointer none), (.int .u32 0), (.int .i32 0), (.int .u32 0), (.int .i64 0), (.pointer none), (.int .u32 0), (.int .i32 0), (.int .u32 0), (.int .i64 0), (.pointer none), (.int .u32 0), (.int .i32 0), (.int .u32 0), (.int .i64 0), (.pointer none), (.int .u32 0), (.int .i32 0), (.int .u32 0), (.int .i64 0), (.pointer none), (.int .u32 0), (.int .i32 0), (.int .u32 0), (.int .i64 0), (.pointer none), (.int .u32 0), (.int .i32 0), (.int .u32 0), (.int .i64 0), (.pointer none), (.int .u32 0), (.int .i32 0), (.int .u32 0), (.int .i64 0), (.pointer none), (.int .u32 0), (.int .i32 0), (.int .u32 0), (.int .i64 0), (.pointer none), (.int .u32 0), (.int .i32 0), (.int .u32 0), (.int .i64 0), (.pointer none), (.int .u32 0), (.int .i32 0), (.int .u32 0), (.int .i64 0), (.pointer none), (.int .u32 0), (.int .i32 0), (.int .u32 0), (.int .i64 0), (.pointer none), (.int .u32 0), (.int .i32 0), (.int .u32 0), (.int .i64 0), (.pointer none), (.int .u32 0), (.int .i32 0), (.int .u32 0), (.int .i64 0), (.pointer none), (.int .u32 0), (.int .i32 0), (.int .u32 0), (.int .i64 0), (.pointer none), (.int .u32 0), (.int .i32 0), (.int .u32 0), (.int .i64 0), (.pointer none), (.int .u32 0), (.int .i32 0), (.int .u32 0), (.int .i64 0), (.pointer none), (.int .u32 0), (.int .i32 0), (.int .u32 0), (.int .i64 0), (.pointer none), (.int .u32 0), (.int .i32 0), (.int .u32 0), (.int .i64 0), (.pointer none), (.int .u32 0), (.int .i32 0), (.int .u32 0), (.int .i64 0), (.pointer none), (.int .u32 0), (.int .i32 0), (.int .u32 0), (.int .i64 0), (.pointer none), (.int .u32 0), (.int .i32 0), (.int .u32 0), (.int .i64 0), (.pointer none), (.int .u32 0), (.int .i32 0), (.int .u32 0), (.int .i64 0), (.pointer none), (.int .u32 0), (.int .i32 0), (.int .u32 0), (.int .i64 0), (.pointer none), (.int .u32 0), (.int .i32 0), (.int .u32 0), (.int .i64 0), (.pointer none), (.int .u32 0), (.int .i32 0), (.int .u32 0), (.int .i64 0), (.pointer none), (.int .u32 0), (.int .i32 0), (.int .u32 0), (.int .i64 0), (.pointer none), (.int .u32 0), (.int .i32 0), (.int .u32 0), (.int .i64 0), (.pointer none), (.int .u32 0), (.int .i32 0), (.int .u32 0), (.int .i64 0), (.pointer none), (.int .u32 0), (.int .i32 0), (.int .u32 0), (.int .i64 0), (.pointer none), (.int .u32 0), (.int .i32 0), (.int .u32 0), (.int .i64 0), (.pointer none), (.int .u32 0), (.int .i32 0), (.int .u32 0), (.int .i64 0), (.pointer none), (.int .u32 0), (.int .i32 0), (.int .u32 0), (.int .i64 0), (.pointer none), (.int .u32 0), (.int .i32 0), (.int .u32 0), (.int .i64 0), (.pointer none), (.int .u32 0), (.int .i32 0), (.int .u32 0), (.int .i64 0), (.pointer none), (.int .u32 0), (.int .i32 0), (.int .u32 0), (.int .i64 0), (.pointer none), (.int .u32 0), (.int .i32 0), (.int .u32 0), (.int .i64 0), (.pointer none), (.int .u32 0), (.int .i32 0), (.int .u32 0), (.int .i64 0), (.pointer none)]) := by kernel_rfl
theorem ta73 : (P.info? 73).map (fun i => i.zero.map (·.cells.toList)) = some (some [(.int .u64 0), (.int .u64 0), (.int .i64 0)]) := by kernel_rfl
theorem ta74 : (P.info? 74).map (fun i => i.zero.map (·.cells.toList)) = some (some [(.slice none 0 0)]) := by kernel_rfl
theorem ta88 : (P.info? 88).map (fun i => i.zero.map (·.cells.toList)) = some (some [(.pointer none)]) := by kernel_rfl
theorem ti28 : (P.info? 28).map (fun i => (i.zero, i.size, i.bytes)) = some (some (.int .u64 0), 1, 8) := by kernel_rfl
theorem ti3 : (P.info? 3).map (fun i => (i.zero, i.size, i.bytes)) = some (some (.int .i64 0), 1, 8) := by kernel_rfl
theorem ti30 : (P.info? 30).map (fun i => (i.zero, i.size, i.bytes)) = some (some (.agg #[(.int .u64 0), (.int .u64 0)]), 2, 16) := by kernel_rfl
theorem ti73 : (P.info? 73).map (fun i => (i.zero, i.size, i.bytes)) = some (some (.agg #[(.int .u64 0), (.int .u64 0), (.int .i64 0)]), 3, 24) := by kernel_rfl
theorem tz100 : (P.info? 100).map (·.size) = some 1 := by kernel_rfl
theorem tz28 : (P.info? 28).map (·.size) = some 1 := by kernel_rfl
theorem tz3 : (P.info? 3).map (·.size) = some 1 := by kernel_rfl
theorem tz30 : (P.info? 30).map (·.size) = some 2 := by kernel_rfl
theorem tz66 : (P.info? 66).map (·.size) = some 5 := by kernel_rfl
theorem tz73 : (P.info? 73).map (·.size) = some 3 := by kernel_rfl
theorem tz74 : (P.info? 74).map (·.size) = some 1 := by kernel_rfl
theorem tz88 : (P.info? 88).map (·.size) = some 1 := by kernel_rfl
end Go.Proofs.Ytggdkplphfofkaa.W
