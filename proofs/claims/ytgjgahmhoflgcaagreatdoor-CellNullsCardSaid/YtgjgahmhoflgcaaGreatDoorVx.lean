/- facts on types of the translation, each closed -/
import Derived.Test.YtgjgahmhoflgcaaGreatDoorVk
import Derived.Test.YtgjgahmhoflgcaaGreatDoorProg
namespace Go.Proofs.YtgjgahmhoflgcaaGreatDoor.W
open Go.Vc
noncomputable abbrev P : Program := Tryz.prog
theorem fo104_0 : Z0C P 104 0 = some 0 := by kernel_rfl
theorem fo104_1 : Z0C P 104 1 = some 3 := by kernel_rfl
theorem fo104_2 : Z0C P 104 2 = some 4 := by kernel_rfl
theorem fo107_0 : Z0C P 107 0 = some 0 := by kernel_rfl
theorem Z6h : Z0C P 158 0 = some 0 := by kernel_rfl
theorem fo158_1 : Z0C P 158 1 = some 1 := by kernel_rfl
theorem fo158_2 : Z0C P 158 2 = some 2 := by kernel_rfl
theorem Z5Y : Z0C P 174 0 = some 0 := by kernel_rfl
theorem fo174_1 : Z0C P 174 1 = some 1 := by kernel_rfl
theorem Z5Z : Z0C P 174 2 = some 2 := by kernel_rfl
theorem Z5i : Z0C P 174 3 = some 3 := by kernel_rfl
theorem Z73 : Z0C P 174 4 = some 4 := by kernel_rfl
theorem fo199_0 : Z0C P 199 0 = some 0 := by kernel_rfl
theorem Z60 : Z0C P 199 1 = some 1 := by kernel_rfl
theorem fo199_2 : Z0C P 199 2 = some 2 := by kernel_rfl
theorem Z53 : Z0C P 199 3 = some 3 := by kernel_rfl
theorem fo221_0 : Z0C P 221 0 = some 0 := by kernel_rfl
theorem fo221_1 : Z0C P 221 1 = some 1 := by kernel_rfl
theorem fo221_2 : Z0C P 221 2 = some 2 := by kernel_rfl
theorem fo225_0 : Z0C P 225 0 = some 0 := by kernel_rfl
theorem fo225_1 : Z0C P 225 1 = some 1 := by kernel_rfl
theorem fo225_2 : Z0C P 225 2 = some 2 := by kernel_rfl
theorem fo256_0 : Z0C P 256 0 = some 0 := by kernel_rfl
theorem fo256_1 : Z0C P 256 1 = some 1 := by kernel_rfl
theorem fo270_0 : Z0C P 270 0 = some 0 := by kernel_rfl
theorem fo270_1 : Z0C P 270 1 = some 1 := by kernel_rfl
theorem fo311_0 : Z0C P 311 0 = some 0 := by kernel_rfl
theorem Z6i : Z0C P 311 1 = some 1 := by kernel_rfl
theorem Z74 : Z0C P 311 2 = some 2 := by kernel_rfl
theorem Z6j : Z0C P 311 3 = some 3 := by kernel_rfl
theorem Z5x : Z0C P 311 4 = some 4 := by kernel_rfl
theorem fo350_0 : Z0C P 350 0 = some 0 := by kernel_rfl
theorem fo350_1 : Z0C P 350 1 = some 2 := by kernel_rfl
theorem pl107 : Z2V P 107 = some [(0, 205)] := by kernel_rfl
theorem pl158 : Z2V P 158 = some [(0, 1), (1, 1), (2, 1)] := by kernel_rfl
theorem pl174 : Z2V P 174 = some [(0, 1), (1, 1), (2, 1), (3, 1), (4, 1)] := by kernel_rfl
theorem pl199 : Z2V P 199 = some [(0, 1), (1, 1), (2, 1), (3, 5)] := by kernel_rfl
theorem pl221 : Z2V P 221 = some [(0, 1), (1, 1), (2, 1)] := by kernel_rfl
theorem pl225 : Z2V P 225 = some [(0, 1), (1, 1), (2, 1)] := by kernel_rfl
theorem pl256 : Z2V P 256 = some [(0, 1), (1, 3)] := by kernel_rfl
theorem pl270 : Z2V P 270 = some [(0, 1), (1, 1)] := by kernel_rfl
theorem pl311 : Z2V P 311 = some [(0, 1), (1, 1), (2, 1), (3, 1), (4, 1)] := by kernel_rfl
theorem pl350 : Z2V P 350 = some [(0, 2), (2, 1)] := by kernel_rfl
theorem ta107 : (P.info? 107).map (fun i => i.zero.map (·.cells.toList)) = some (some [(.int .u32 0), (.int .i32 0), (.int .u32 0), (.int .i64 0), (.pointer none), (.int .u32 0), (.int .i32 0), (.int .u32 0), (.int .i64 0), (.pointer none), (.int .u32 0), (.int .i32 0), (.int .u32 0), (.int .i64 0), (.pointer none), (.int .u32 0), (.int .i32 0), (.int .u32 0), (.int .i64 0), (.pointer none), (.int .u32 0), (.int .i32 0), (.int .u32 0), (.int .i64 0), (.pointer none), (.int .u32 0), (.int .i32 0), (.int .u32 0), (.int .i64 0), (.pointer none), (.int .u32 0), (.int .i32 0), (.int .u32 0), (.int .i64 0), (.pointer none), (.int .u32 0), (.int .i32 0), (.int .u32 0), (.int .i64 0), (.pointer none), (.int .u32 0), (.int .i32 0), (.int .u32 0), (.int .i64 0), (.pointer none), (.int .u32 0), (.int .i32 0), (.int .u32 0), (.int .i64 0), (.pointer none), (.int .u32 0), (.int .i32 0), (.int .u32 0), (.int .i64 0), (.pointer none), (.int .u32 0), (.int .i32 0), (.int .u32 0), (.int .i64 0), (.pointer none), (.int .u32 0), (.int .i32 0), (.int .u32 0), (.int .i64 0), (.pointer none), (.int .u32 0), (.int .i32 0), (.int .u32 0), (.int .i64 0), (.pointer none), (.int .u32 0), (.int .i32 0), (.int .u32 0), (.int .i64 0), (.pointer none), (.int .u32 0), (.int .i32 0), (.int .u32 0), (.int .i64 0), (.pointer none), (.int .u32 0), (.int .i32 0), (.int .u32 0), (.int .i64 0), (.pointer none), (.int .u32 0), (.int .i32 0), (.int .u32 0), (.int .i64 0), (.pointer none), (.int .u32 0), (.int .i32 0), (.int .u32 0), (.int .i64 0), (.pointer none), (.int .u32 0), (.int .i32 0), (.int .u32 0), (.int .i64 0), (.pointer none), (.int .u32 0), (.int .i32 0), (.int .u32 0), (.int .i64 0), (.pointer none), (.int .u32 0), (.int .i32 0), (.int .u32 0), (.int .i64 0), (.pointer none), (.int .u32 0), (.int .i32 0), (.int .u32 0), (.int .i64 0), (.pointer none), (.int .u32 0), (.int .i32 0), (.int .u32 0), (.int .i64 0), (.pointer none), (.int .u32 0), (.int .i32 0), (.int .u32 0), (.int .i64 0), (.pointer none), (.int .u32 0), (.int .i32 0), (.int .u32 0), (.int .i64 0), (.pointer none), (.int .u32 0), (.int .i32 0), (.int .u32 0), (.int .i64 0), (.pointer none), (.int .u32 0), (.int .i32 0), (.int .u32 0), (.int .i64 0), (.pointer none), (.int .u32 0), (.int .i32 0), (.int .u32 0), (.int .i64 0), (.pointer none), (.int .u32 0), (.int .i32 0), (.int .u32 0), (.int .i64 0), (.pointer none), (.int .u32 0), (.int .i32 0), (.int .u32 0), (.int .i64 0), (.pointer none), (.int .u32 0), (.int .i32 0), (.int .u32 0), (.int .i64 0), (.pointer none), (.int .u32 0), (.int .i32 0), (.int .u32 0), (.int .i64 0), (.pointer none), (.int .u32 0), (.int .i32 0), (.int .u32 0), (.int .i64 0), (.pointer none), (.int .u32 0), (.int .i32 0), (.int .u32 0), (.int .i64 0), (.pointer none), (.int .u32 0), (.int .i32 0), (.int .u32 0), (.int .i64 0), (.pointer none), (.int .u32 0), (.int .i32 0), (.int .u32 0), (.int .i64 0), (.pointer none), (.int .u32 0), (.int .i32 0), (.int .u32 0), (.int .i64 0), (.pointer none), (.int .u32 0), (.int .i32 0), (.int .u32 0), (.int .i64 0), (.pointer none), (.int .u32 0), (.int .i32 0), (.int .u32 0), (.int .i64 0), (.pointer none), (.int .u32 0), (.int .i32 0), (.int .u32 0), (.int .i64 0), (.pointer none)]) := by kernel_rfl
theorem ta126 : (P.info? 126).map (fun i => i.zero.map (·.cells.toList)) = some (some [(.slice none 0 0)]) := by kernel_rfl
theorem ta155 : (P.info? 155).map (fun i => i.zero.map (·.cells.toList)) = some (some [(.slice none 0 0)]) := by kernel_rfl
theorem ta158 : (P.info? 158).map (fun i => i.zero.map (·.cells.toList)) = some (some [(.int .i64 0), (.int .i64 0), (.int .i64 0)]) := by kernel_rfl
theorem ta174 : (P.info? 174).map (fun i => i.zero.map (·.cells.toList)) = some (some [(.bool false), (.int .i64 0), (.int .u64 0), (.int .i64 0), (.bool false)]) := by kernel_rfl
theorem ta199 : (P.info? 199).map (fun i => i.zero.map (·.cells.toList)) = some (some [(.pointer none), (.int .i64 0), (.slice none 0 0), (.bool false), (.int .i64 0), (.int .u64 0), (.int .i64 0), (.bool false)]) := by kernel_rfl
theorem ta221 : (P.info? 221).map (fun i => i.zero.map (·.cells.toList)) = some (some [(.int .i64 0), .nilFunc, .nilFunc]) := by kernel_rfl
theorem ta225 : (P.info? 225).map (fun i => i.zero.map (·.cells.toList)) = some (some [(.bool false), (.int .u64 0), (.int .i64 0)]) := by kernel_rfl
theorem ta256 : (P.info? 256).map (fun i => i.zero.map (·.cells.toList)) = some (some [(.int .i64 0), (.int .i64 0), (.int .i64 0), (.int .i64 0)]) := by kernel_rfl
theorem ta257 : (P.info? 257).map (fun i => i.zero.map (·.cells.toList)) = some (some [(.int .i64 0), (.int .i64 0), (.int .i64 0), (.int .i64 0), (.int .i64 0), (.int .i64 0), (.int .i64 0), (.int .i64 0)]) := by kernel_rfl
theorem ta270 : (P.info? 270).map (fun i => i.zero.map (·.cells.toList)) = some (some [(.int .u64 0), (.int .u64 0)]) := by kernel_rfl
theorem ta311 : (P.info? 311).map (fun i => i.zero.map (·.cells.toList)) = some (some [(.bool false), (.int .i64 0), (.slice none 0 0), (.slice none 0 0), (.int .i64 0)]) := by kernel_rfl
theorem ta350 : (P.info? 350).map (fun i => i.zero.map (·.cells.toList)) = some (some [(.int .u64 0), (.int .u64 0), (.int .i64 0)]) := by kernel_rfl
theorem ta368 : (P.info? 368).map (fun i => i.zero.map (·.cells.toList)) = some (some [(.pointer none)]) := by kernel_rfl
theorem ti221 : (P.info? 221).map (fun i => (i.zero, i.size, i.bytes)) = some (some (.agg #[(.int .i64 0), .nilFunc, .nilFunc]), 3, 24) := by kernel_rfl
theorem ti24 : (P.info? 24).map (fun i => (i.zero, i.size, i.bytes)) = some (some (.int .u64 0), 1, 8) := by kernel_rfl
theorem ti270 : (P.info? 270).map (fun i => (i.zero, i.size, i.bytes)) = some (some (.agg #[(.int .u64 0), (.int .u64 0)]), 2, 16) := by kernel_rfl
theorem ti350 : (P.info? 350).map (fun i => (i.zero, i.size, i.bytes)) = some (some (.agg #[(.int .u64 0), (.int .u64 0), (.int .i64 0)]), 3, 24) := by kernel_rfl
theorem ti5 : (P.info? 5).map (fun i => (i.zero, i.size, i.bytes)) = some (some (.int .u8 0), 1, 1) := by kernel_rfl
theorem tz104 : (P.info? 104).map (·.size) = some 5 := by kernel_rfl
theorem tz126 : (P.info? 126).map (·.size) = some 1 := by kernel_rfl
theorem tz155 : (P.info? 155).map (·.size) = some 1 := by kernel_rfl
theorem Z5y : (P.info? 158).map (·.size) = some 3 := by kernel_rfl
theorem Z68 : (P.info? 174).map (·.size) = some 5 := by kernel_rfl
theorem Z6p : (P.info? 199).map (·.size) = some 8 := by kernel_rfl
theorem tz221 : (P.info? 221).map (·.size) = some 3 := by kernel_rfl
theorem tz24 : (P.info? 24).map (·.size) = some 1 := by kernel_rfl
theorem tz25 : (P.info? 25).map (·.size) = some 1 := by kernel_rfl
theorem tz256 : (P.info? 256).map (·.size) = some 4 := by kernel_rfl
theorem tz257 : (P.info? 257).map (·.size) = some 8 := by kernel_rfl
theorem Z5j : (P.info? 270).map (·.size) = some 2 := by kernel_rfl
theorem tz3 : (P.info? 3).map (·.size) = some 1 := by kernel_rfl
theorem Z51 : (P.info? 311).map (·.size) = some 5 := by kernel_rfl
theorem tz350 : (P.info? 350).map (·.size) = some 3 := by kernel_rfl
theorem tz367 : (P.info? 367).map (·.size) = some 8 := by kernel_rfl
theorem tz368 : (P.info? 368).map (·.size) = some 1 := by kernel_rfl
theorem tz4 : (P.info? 4).map (·.size) = some 1 := by kernel_rfl
theorem tz5 : (P.info? 5).map (·.size) = some 1 := by kernel_rfl
end Go.Proofs.YtgjgahmhoflgcaaGreatDoor.W
