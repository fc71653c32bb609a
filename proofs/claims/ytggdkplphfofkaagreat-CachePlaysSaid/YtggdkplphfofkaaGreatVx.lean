/- facts on types of the translation, each closed -/
import Derived.Test.YtggdkplphfofkaaGreatVk
import Derived.Test.YtggdkplphfofkaaGreatProg
namespace Go.Proofs.YtggdkplphfofkaaGreat.W
open Go.Vc
noncomputable abbrev P : Program := Tryz.prog
theorem fl67 : flatT P 67 = some [(0, .int .u64), (1, .int .u64)] := by kernel_rfl
theorem fo29_0 : fieldOff P 29 0 = some 0 := by kernel_rfl
theorem fo34_0 : fieldOff P 34 0 = some 0 := by kernel_rfl
theorem fo34_1 : fieldOff P 34 1 = some 1 := by kernel_rfl
theorem fo34_2 : fieldOff P 34 2 = some 2 := by kernel_rfl
theorem fo34_3 : fieldOff P 34 3 = some 3 := by kernel_rfl
theorem fo61_0 : fieldOff P 61 0 = some 0 := by kernel_rfl
theorem fo61_1 : fieldOff P 61 1 = some 3 := by kernel_rfl
theorem fo61_2 : fieldOff P 61 2 = some 4 := by kernel_rfl
theorem fo64_0 : fieldOff P 64 0 = some 0 := by kernel_rfl
theorem fo67_0 : fieldOff P 67 0 = some 0 := by kernel_rfl
theorem fo67_1 : fieldOff P 67 1 = some 1 := by kernel_rfl
theorem fo87_0 : fieldOff P 87 0 = some 0 := by kernel_rfl
theorem fo87_1 : fieldOff P 87 1 = some 2 := by kernel_rfl
theorem pl29 : places P 29 = some [(0, 41)] := by kernel_rfl
theorem pl64 : places P 64 = some [(0, 205)] := by kernel_rfl
theorem pl67 : places P 67 = some [(0, 1), (1, 1)] := by kernel_rfl
theorem pl87 : places P 87 = some [(0, 2), (2, 1)] := by kernel_rfl
theorem ta117 : (P.info? 117).map (fun i => i.zero.map (·.cells.toList)) = some (some [(.slice none 0 0)]) := by kernel_rfl
theorem ta29 : (P.info? 29).map (fun i => i.zero.map (·.cells.toList)) = some (some [(.int .i64 0), (.int .i64 0), (.int .i64 0), (.int .i64 0), (.int .i64 0), (.int .i64 0), (.int .i64 0), (.int .i64 0), (.int .i64 0), (.int .i64 0), (.int .i64 0), (.int .i64 0), (.int .i64 0), (.int .i64 0), (.int .i64 0), (.int .i64 0), (.int .i64 0), (.int .i64 0), (.int .i64 0), (.int .i64 0), (.int .i64 0), (.int .i64 0), (.int .i64 0), (.int .i64 0), (.int .i64 0), (.int .i64 0), (.int .i64 0), (.int .i64 0), (.int .i64 0), (.int .i64 0), (.int .i64 0), (.int .i64 0), (.int .i64 0), (.int .i64 0), (.int .i64 0), (.int .i64 0), (.int .i64 0), (.int .i64 0), (.int .i64 0), (.int .i64 0), (.int .i64 0)]) := by kernel_rfl
theorem ta64 : (P.info? 64).map (fun i => i.zero.map (·.cells.toList)) = some (some [(.int .u32 0), (.int .i32 0), (.int .u32 0), (.int .i64 0), (.pointer none), (.int .u32 0), (.int .i32 0), (.int .u32 0), (.int .i64 0), (.pointer none), (.int .u32 0), (.int .i32 0), (.int .u32 0), (.int .i64 0), (.pointer none), (.int .u32 0), (.int .i32 0), (.int .u32 0), (.int .i64 0), (.pointer none), (.int .u32 0), (.int .i32 0), (.int .u32 0), (.int .i64 0), (.pointer none), (.int .u32 0), (.int .i32 0), (.int .u32 0), (.int .i64 0), (.pointer none), (.int .u32 0), (.int .i32 0), (.int .u32 0), (.int .i64 0), (.pointer none), (.int .u32 0), (.int .i32 0), (.int .u32 0), (.int .i64 0), (.pointer none), (.int .u32 0), (.int .i32 0), (.int .u32 0), (.int .i64 0), (.pointer none), (.int .u32 0), (.int .i32 0), (.int .u32 0), (.int .i64 0), (.pointer none), (.int .u32 0), (.int .i32 0), (.int .u32 0), (.int .i64 0), (.pointer none), (.int .u32 0), (.int .i32 0), (.int .u32 0), (.int .i64 0), (.pointer none), (.int .u32 0), (.int .i32 0), (.int .u32 0), (.int .i64 0), (.pointer none), (.int .u32 0), (.int .i32 0), (.int .u32 0), (.int .i64 0), (.pointer none), (.int .u32 0), (.int .i32 0), (.int .u32 0), (.int .i64 0), (.pointer none), (.int .u32 0), (.int .i32 0), (.int .u32 0), (.int .i64 0), (.pointer none), (.int .u32 0), (.int .i32 0), (.int .u32 0), (.int .i64 0), (.pointer none), (.int .u32 0), (.int .i32 0), (.int .u32 0), (.int .i64 0), (.pointer none), (.int .u32 0), (.int .i32 0), (.int .u32 0), (.int .i64 0), (.pointer none), (.int .u32 0), (.int .i32 0), (.int .u32 0), (.int .i64 0), (.pointer none), (.int .u32 0), (.int .i32 0), (.int .u32 0), (.int .i64 0), (.pointer none), (.int .u32 0), (.int .i32 0), (.int .u32 0), (.int .i64 0), (.pointer none), (.int .u32 0), (.int .i32 0), (.int .u32 0), (.int .i64 0), (.pointer none), (.int .u32 0), (.int .i32 0), (.int .u32 0), (.int .i64 0), (.pointer none), (.int .u32 0), (.int .i32 0), (.int .u32 0), (.int .i64 0), (.pointer none), (.int .u32 0), (.int .i32 0), (.int .u32 0), (.int .i64 0), (.pointer none), (.int .u32 0), (.int .i32 0), (.int .u32 0), (.int .i64 0), (.pointer none), (.int .u32 0), (.int .i32 0), (.int .u32 0), (.int .i64 0), (.pointer none), (.int .u32 0), (.int .i32 0), (.int .u32 0), (.int .i64 0), (.pointer none), (.int .u32 0), (.int .i32 0), (.int .u32 0), (.int .i64 0), (.pointer none), (.int .u32 0), (.int .i32 0), (.int .u32 0), (.int .i64 0), (.pointer none), (.int .u32 0), (.int .i32 0), (.int .u32 0), (.int .i64 0), (.pointer none), (.int .u32 0), (.int .i32 0), (.int .u32 0), (.int .i64 0), (.pointer none), (.int .u32 0), (.int .i32 0), (.int .u32 0), (.int .i64 0), (.pointer none), (.int .u32 0), (.int .i32 0), (.int .u32 0), (.int .i64 0), (.pointer none), (.int .u32 0), (.int .i32 0), (.int .u32 0), (.int .i64 0), (.pointer none), (.int .u32 0), (.int .i32 0), (.int .u32 0), (.int .i64 0), (.pointer none), (.int .u32 0), (.int .i32 0), (.int .u32 0), (.int .i64 0), (.pointer none), (.int .u32 0), (.int .i32 0), (.int .u32 0), (.int .i64 0), (.pointer none), (.int .u32 0), (.int .i32 0), (.int .u32 0), (.int .i64 0), (.pointer none), (.int .u32 0), (.int .i32 0), (.int .u32 0), (.int .i64 0), (.pointer none)]) := by kernel_rfl
theorem ta67 : (P.info? 67).map (fun i => i.zero.map (·.cells.toList)) = some (some [(.int .u64 0), (.int .u64 0)]) := by kernel_rfl
theorem ta81 : (P.info? 81).map (fun i => i.zero.map (·.cells.toList)) = some (some [(.slice none 0 0)]) := by kernel_rfl
theorem ta87 : (P.info? 87).map (fun i => i.zero.map (·.cells.toList)) = some (some [(.int .u64 0), (.int .u64 0), (.int .i64 0)]) := by kernel_rfl
theorem ta95 : (P.info? 95).map (fun i => i.zero.map (·.cells.toList)) = some (some [(.pointer none)]) := by kernel_rfl
theorem ti23 : (P.info? 23).map (fun i => (i.zero, i.size, i.bytes)) = some (some (.pointer none), 1, 8) := by kernel_rfl
theorem ti26 : (P.info? 26).map (fun i => (i.zero, i.size, i.bytes)) = some (some (.pointer none), 1, 8) := by kernel_rfl
theorem ti3 : (P.info? 3).map (fun i => (i.zero, i.size, i.bytes)) = some (some (.int .i64 0), 1, 8) := by kernel_rfl
theorem ti65 : (P.info? 65).map (fun i => (i.zero, i.size, i.bytes)) = some (some (.int .u64 0), 1, 8) := by kernel_rfl
theorem ti67 : (P.info? 67).map (fun i => (i.zero, i.size, i.bytes)) = some (some (.agg #[(.int .u64 0), (.int .u64 0)]), 2, 16) := by kernel_rfl
theorem ti87 : (P.info? 87).map (fun i => (i.zero, i.size, i.bytes)) = some (some (.agg #[(.int .u64 0), (.int .u64 0), (.int .i64 0)]), 3, 24) := by kernel_rfl
theorem tz117 : (P.info? 117).map (·.size) = some 1 := by kernel_rfl
theorem tz23 : (P.info? 23).map (·.size) = some 1 := by kernel_rfl
theorem tz26 : (P.info? 26).map (·.size) = some 1 := by kernel_rfl
theorem tz3 : (P.info? 3).map (·.size) = some 1 := by kernel_rfl
theorem tz34 : (P.info? 34).map (·.size) = some 4 := by kernel_rfl
theorem tz61 : (P.info? 61).map (·.size) = some 5 := by kernel_rfl
theorem tz65 : (P.info? 65).map (·.size) = some 1 := by kernel_rfl
theorem tz67 : (P.info? 67).map (·.size) = some 2 := by kernel_rfl
theorem tz81 : (P.info? 81).map (·.size) = some 1 := by kernel_rfl
theorem tz87 : (P.info? 87).map (·.size) = some 3 := by kernel_rfl
theorem tz95 : (P.info? 95).map (·.size) = some 1 := by kernel_rfl
end Go.Proofs.YtggdkplphfofkaaGreat.W
