/- facts on types of the translation, each closed -/
import Derived.Test.YtjcbdogohjafdaaGreatVk
import Derived.Test.YtjcbdogohjafdaaGreatProg
namespace Go.Proofs.YtjcbdogohjafdaaGreat.W
open Go.Vc
noncomputable abbrev P : Program := Tryz.prog
theorem fo100_0 : Z0A P 100 0 = some 0 := by kernel_rfl
theorem fo100_1 : Z0A P 100 1 = some 3 := by kernel_rfl
theorem fo100_2 : Z0A P 100 2 = some 4 := by kernel_rfl
theorem fo103_0 : Z0A P 103 0 = some 0 := by kernel_rfl
theorem fo124_0 : Z0A P 124 0 = some 0 := by kernel_rfl
theorem fo124_1 : Z0A P 124 1 = some 1 := by kernel_rfl
theorem fo143_0 : Z0A P 143 0 = some 0 := by kernel_rfl
theorem Z47 : Z0A P 143 1 = some 1 := by kernel_rfl
theorem fo143_2 : Z0A P 143 2 = some 2 := by kernel_rfl
theorem Z4D : Z0A P 143 3 = some 3 := by kernel_rfl
theorem fo143_4 : Z0A P 143 4 = some 4 := by kernel_rfl
theorem Z4E : Z0A P 143 5 = some 5 := by kernel_rfl
theorem Z3q : Z0A P 153 0 = some 0 := by kernel_rfl
theorem fo153_1 : Z0A P 153 1 = some 1 := by kernel_rfl
theorem fo153_2 : Z0A P 153 2 = some 2 := by kernel_rfl
theorem fo181_0 : Z0A P 181 0 = some 0 := by kernel_rfl
theorem fo181_1 : Z0A P 181 1 = some 2 := by kernel_rfl
theorem fo227_0 : Z0A P 227 0 = some 0 := by kernel_rfl
theorem Z3r : Z0A P 227 1 = some 1 := by kernel_rfl
theorem Z4F : Z0A P 227 2 = some 2 := by kernel_rfl
theorem Z3s : Z0A P 227 3 = some 3 := by kernel_rfl
theorem Z2b : Z0A P 227 4 = some 4 := by kernel_rfl
theorem fo245_0 : Z0A P 245 0 = some 0 := by kernel_rfl
theorem fo245_1 : Z0A P 245 1 = some 1 := by kernel_rfl
theorem Z3B : Z0A P 40 2 = some 2 := by kernel_rfl
theorem Z23 : Z0A P 40 3 = some 3 := by kernel_rfl
theorem Z3C : Z0A P 40 4 = some 4 := by kernel_rfl
theorem fo70_0 : Z0A P 70 0 = some 0 := by kernel_rfl
theorem Z54 : Z0A P 70 1 = some 1 := by kernel_rfl
theorem Z58 : Z0A P 70 2 = some 2 := by kernel_rfl
theorem pl103 : Z2g P 103 = some [(0, 205)] := by kernel_rfl
theorem pl124 : Z2g P 124 = some [(0, 1), (1, 1)] := by kernel_rfl
theorem pl143 : Z2g P 143 = some [(0, 1), (1, 1), (2, 1), (3, 1), (4, 1), (5, 1)] := by kernel_rfl
theorem pl153 : Z2g P 153 = some [(0, 1), (1, 1), (2, 1)] := by kernel_rfl
theorem pl181 : Z2g P 181 = some [(0, 2), (2, 1)] := by kernel_rfl
theorem pl227 : Z2g P 227 = some [(0, 1), (1, 1), (2, 1), (3, 1), (4, 1)] := by kernel_rfl
theorem pl245 : Z2g P 245 = some [(0, 1), (1, 3)] := by kernel_rfl
theorem pl40 : Z2g P 40 = some [(0, 1), (1, 1), (2, 1), (3, 1), (4, 1)] := by kernel_rfl
theorem pl70 : Z2g P 70 = some [(0, 1), (1, 1), (2, 1)] := by kernel_rfl
theorem ta103 : (P.info? 103).map (fun i => i.zero.map (·.cells.toList)) = some (some [(.int .u32 0), (.int .i32 0), (.int .u32 0), (.int .i64 0), (.pointer none), (.int .u32 0), (.int .i32 0), (.int .u32 0), (.int .i64 0), (.pointer none), (.int .u32 0), (.int .i32 0), (.int .u32 0), (.int .i64 0), (.pointer none), (.int .u32 0), (.int .i32 0), (.int .u32 0), (.int .i64 0), (.pointer none), (.int .u32 0), (.int .i32 0), (.int .u32 0), (.int .i64 0), (.pointer none), (.int .u32 0), (.int .i32 0), (.int .u32 0), (.int .i64 0), (.pointer none), (.int .u32 0), (.int .i32 0), (.int .u32 0), (.int .i64 0), (.pointer none), (.int .u32 0), (.int .i32 0), (.int .u32 0), (.int .i64 0), (.pointer none), (.int .u32 0), (.int .i32 0), (.int .u32 0), (.int .i64 0), (.pointer none), (.int .u32 0), (.int .i32 0), (.int .u32 0), (.int .i64 0), (.pointer none), (.int .u32 0), (.int .i32 0), (.int .u32 0), (.int .i64 0), (.pointer none), (.int .u32 0), (.int .i32 0), (.int .u32 0), (.int .i64 0), (.pointer none), (.int .u32 0), (.int .i32 0), (.int .u32 0), (.int .i64 0), (.pointer none), (.int .u32 0), (.int .i32 0), (.int .u32 0), (.int .i64 0), (.pointer none), (.int .u32 0), (.int .i32 0), (.int .u32 0), (.int .i64 0), (.pointer none), (.int .u32 0), (.int .i32 0), (.int .u32 0), (.int .i64 0), (.pointer none), (.int .u32 0), (.int .i32 0), (.int .u32 0), (.int .i64 0), (.pointer none), (.int .u32 0), (.int .i32 0), (.int .u32 0), (.int .i64 0), (.pointer none), (.int .u32 0), (.int .i32 0), (.int .u32 0), (.int .i64 0), (.pointer none), (.int .u32 0), (.int .i32 0), (.int .u32 0), (.int .i64 0), (.pointer none), (.int .u32 0), (.int .i32 0), (.int .u32 0), (.int .i64 0), (.pointer none), (.int .u32 0), (.int .i32 0), (.int .u32 0), (.int .i64 0), (.pointer none), (.int .u32 0), (.int .i32 0), (.int .u32 0), (.int .i64 0), (.pointer none), (.int .u32 0), (.int .i32 0), (.int .u32 0), (.int .i64 0), (.pointer none), (.int .u32 0), (.int .i32 0), (.int .u32 0), (.int .i64 0), (.pointer none), (.int .u32 0), (.int .i32 0), (.int .u32 0), (.int .i64 0), (.pointer none), (.int .u32 0), (.int .i32 0), (.int .u32 0), (.int .i64 0), (.pointer none), (.int .u32 0), (.int .i32 0), (.int .u32 0), (.int .i64 0), (.pointer none), (.int .u32 0), (.int .i32 0), (.int .u32 0), (.int .i64 0), (.pointer none), (.int .u32 0), (.int .i32 0), (.int .u32 0), (.int .i64 0), (.pointer none), (.int .u32 0), (.int .i32 0), (.int .u32 0), (.int .i64 0), (.pointer none), (.int .u32 0), (.int .i32 0), (.int .u32 0), (.int .i64 0), (.pointer none), (.int .u32 0), (.int .i32 0), (.int .u32 0), (.int .i64 0), (.pointer none), (.int .u32 0), (.int .i32 0), (.int .u32 0), (.int .i64 0), (.pointer none), (.int .u32 0), (.int .i32 0), (.int .u32 0), (.int .i64 0), (.pointer none), (.int .u32 0), (.int .i32 0), (.int .u32 0), (.int .i64 0), (.pointer none), (.int .u32 0), (.int .i32 0), (.int .u32 0), (.int .i64 0), (.pointer none), (.int .u32 0), (.int .i32 0), (.int .u32 0), (.int .i64 0), (.pointer none), (.int .u32 0), (.int .i32 0), (.int .u32 0), (.int .i64 0), (.pointer none), (.int .u32 0), (.int .i32 0), (.int .u32 0), (.int .i64 0), (.pointer none), (.int .u32 0), (.int .i32 0), (.int .u32 0), (.int .i64 0), (.pointer none)]) := by kernel_rfl
theorem Z5a : (P.info? 124).map (fun i => i.zero.map (·.cells.toList)) = some (some [(.int .u64 0), (.int .u64 0)]) := by kernel_rfl
theorem ta140 : (P.info? 140).map (fun i => i.zero.map (·.cells.toList)) = some (some [(.slice none 0 0)]) := by kernel_rfl
theorem Z5L : (P.info? 143).map (fun i => i.zero.map (·.cells.toList)) = some (some [(.bool false), (.int .i64 0), (str []), (str []), (.bool false), (str [])]) := by kernel_rfl
theorem Z48 : (P.info? 153).map (fun i => i.zero.map (·.cells.toList)) = some (some [(.int .i64 0), (.int .i64 0), (.int .i64 0)]) := by kernel_rfl
theorem ta181 : (P.info? 181).map (fun i => i.zero.map (·.cells.toList)) = some (some [(.int .u64 0), (.int .u64 0), (.int .i64 0)]) := by kernel_rfl
theorem ta203 : (P.info? 203).map (fun i => i.zero.map (·.cells.toList)) = some (some [(.pointer none)]) := by kernel_rfl
theorem ta227 : (P.info? 227).map (fun i => i.zero.map (·.cells.toList)) = some (some [(.bool false), (.int .i64 0), (.slice none 0 0), (.slice none 0 0), (.int .i64 0)]) := by kernel_rfl
theorem ta245 : (P.info? 245).map (fun i => i.zero.map (·.cells.toList)) = some (some [(.int .i64 0), (.int .i64 0), (.int .i64 0), (.int .i64 0)]) := by kernel_rfl
theorem ta246 : (P.info? 246).map (fun i => i.zero.map (·.cells.toList)) = some (some [(.int .i64 0), (.int .i64 0), (.int .i64 0), (.int .i64 0), (.int .i64 0), (.int .i64 0), (.int .i64 0), (.int .i64 0)]) := by kernel_rfl
theorem ta40 : (P.info? 40).map (fun i => i.zero.map (·.cells.toList)) = some (some [(.bool false), (.int .i64 0), (.int .u64 0), (.int .i64 0), (.bool false)]) := by kernel_rfl
theorem ta47 : (P.info? 47).map (fun i => i.zero.map (·.cells.toList)) = some (some [(.slice none 0 0)]) := by kernel_rfl
theorem ta70 : (P.info? 70).map (fun i => i.zero.map (·.cells.toList)) = some (some [(.bool false), (.int .u64 0), (.int .i64 0)]) := by kernel_rfl
theorem ti124 : (P.info? 124).map (fun i => (i.zero, i.size, i.bytes)) = some (some (.agg #[(.int .u64 0), (.int .u64 0)]), 2, 16) := by kernel_rfl
theorem ti181 : (P.info? 181).map (fun i => (i.zero, i.size, i.bytes)) = some (some (.agg #[(.int .u64 0), (.int .u64 0), (.int .i64 0)]), 3, 24) := by kernel_rfl
theorem ti3 : (P.info? 3).map (fun i => (i.zero, i.size, i.bytes)) = some (some (.int .i64 0), 1, 8) := by kernel_rfl
theorem ti30 : (P.info? 30).map (fun i => (i.zero, i.size, i.bytes)) = some (some (.int .u64 0), 1, 8) := by kernel_rfl
theorem ti5 : (P.info? 5).map (fun i => (i.zero, i.size, i.bytes)) = some (some (.int .u8 0), 1, 1) := by kernel_rfl
theorem ti9 : (P.info? 9).map (fun i => (i.zero, i.size, i.bytes)) = some (some (str []), 1, 16) := by kernel_rfl
theorem tz100 : (P.info? 100).map (·.size) = some 5 := by kernel_rfl
theorem Z1I : (P.info? 124).map (·.size) = some 2 := by kernel_rfl
theorem tz140 : (P.info? 140).map (·.size) = some 1 := by kernel_rfl
theorem Z1q : (P.info? 143).map (·.size) = some 6 := by kernel_rfl
theorem Z1n : (P.info? 153).map (·.size) = some 3 := by kernel_rfl
theorem tz181 : (P.info? 181).map (·.size) = some 3 := by kernel_rfl
theorem tz203 : (P.info? 203).map (·.size) = some 1 := by kernel_rfl
theorem Z12 : (P.info? 227).map (·.size) = some 5 := by kernel_rfl
theorem tz245 : (P.info? 245).map (·.size) = some 4 := by kernel_rfl
theorem tz246 : (P.info? 246).map (·.size) = some 8 := by kernel_rfl
theorem tz26 : (P.info? 26).map (·.size) = some 1 := by kernel_rfl
theorem tz278 : (P.info? 278).map (·.size) = some 8 := by kernel_rfl
theorem tz3 : (P.info? 3).map (·.size) = some 1 := by kernel_rfl
theorem tz30 : (P.info? 30).map (·.size) = some 1 := by kernel_rfl
theorem tz4 : (P.info? 4).map (·.size) = some 1 := by kernel_rfl
theorem tz40 : (P.info? 40).map (·.size) = some 5 := by kernel_rfl
theorem tz47 : (P.info? 47).map (·.size) = some 1 := by kernel_rfl
theorem tz5 : (P.info? 5).map (·.size) = some 1 := by kernel_rfl
theorem tz70 : (P.info? 70).map (·.size) = some 3 := by kernel_rfl
theorem tz9 : (P.info? 9).map (·.size) = some 1 := by kernel_rfl
end Go.Proofs.YtjcbdogohjafdaaGreat.W
