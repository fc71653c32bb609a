/- facts on types of the translation, each closed -/
import Derived.Test.YtfomhfbmmjhljaaGreatDoorVk
import Derived.Test.YtfomhfbmmjhljaaGreatDoorProg
namespace Go.Proofs.YtfomhfbmmjhljaaGreatDoor.W
open Go.Vc
noncomputable abbrev P : Program := Tryz.prog
theorem Z2O : Z0x P 107 0 = some 0 := by kernel_rfl
theorem Z2P : Z0x P 107 1 = some 1 := by kernel_rfl
theorem Z3o : Z0x P 109 0 = some 0 := by kernel_rfl
theorem fo109_1 : Z0x P 109 1 = some 2 := by kernel_rfl
theorem fo109_2 : Z0x P 109 2 = some 3 := by kernel_rfl
theorem fo119_0 : Z0x P 119 0 = some 0 := by kernel_rfl
theorem fo119_1 : Z0x P 119 1 = some 1 := by kernel_rfl
theorem fo142_0 : Z0x P 142 0 = some 0 := by kernel_rfl
theorem Z3p : Z0x P 142 1 = some 1 := by kernel_rfl
theorem Z4M : Z0x P 142 2 = some 2 := by kernel_rfl
theorem Z3q : Z0x P 142 3 = some 3 := by kernel_rfl
theorem Z23 : Z0x P 142 4 = some 4 := by kernel_rfl
theorem fo154_0 : Z0x P 154 0 = some 0 := by kernel_rfl
theorem fo154_1 : Z0x P 154 1 = some 1 := by kernel_rfl
theorem fo187_0 : Z0x P 187 0 = some 0 := by kernel_rfl
theorem fo187_1 : Z0x P 187 1 = some 2 := by kernel_rfl
theorem fo62_0 : Z0x P 62 0 = some 0 := by kernel_rfl
theorem fo62_1 : Z0x P 62 1 = some 3 := by kernel_rfl
theorem fo62_2 : Z0x P 62 2 = some 4 := by kernel_rfl
theorem fo65_0 : Z0x P 65 0 = some 0 := by kernel_rfl
theorem fo68_0 : Z0x P 68 0 = some 0 := by kernel_rfl
theorem Z27 : Z0x P 68 1 = some 1 := by kernel_rfl
theorem Z28 : Z0x P 68 2 = some 2 := by kernel_rfl
theorem Z1Y : Z0x P 72 0 = some 0 := by kernel_rfl
theorem Z1H : Z0x P 80 0 = some 0 := by kernel_rfl
theorem fo80_1 : Z0x P 80 1 = some 1 := by kernel_rfl
theorem fo80_2 : Z0x P 80 2 = some 2 := by kernel_rfl
theorem Z42 : Z0x P 87 0 = some 0 := by kernel_rfl
theorem fo87_1 : Z0x P 87 1 = some 1 := by kernel_rfl
theorem Z43 : Z0x P 87 2 = some 2 := by kernel_rfl
theorem Z2k : Z0x P 87 3 = some 3 := by kernel_rfl
theorem fo87_4 : Z0x P 87 4 = some 4 := by kernel_rfl
theorem fo89_0 : Z0x P 89 0 = some 0 := by kernel_rfl
theorem Z44 : Z0x P 89 1 = some 1 := by kernel_rfl
theorem fo89_2 : Z0x P 89 2 = some 2 := by kernel_rfl
theorem Z1r : Z0x P 89 3 = some 3 := by kernel_rfl
theorem fo97_0 : Z0x P 97 0 = some 0 := by kernel_rfl
theorem fo97_1 : Z0x P 97 1 = some 1 := by kernel_rfl
theorem fo97_2 : Z0x P 97 2 = some 2 := by kernel_rfl
theorem pl107 : Z1T P 107 = some [(0, 1), (1, 1)] := by kernel_rfl
theorem pl109 : Z1T P 109 = some [(0, 2), (2, 1), (3, 1)] := by kernel_rfl
theorem pl119 : Z1T P 119 = some [(0, 1), (1, 3)] := by kernel_rfl
theorem pl142 : Z1T P 142 = some [(0, 1), (1, 1), (2, 1), (3, 1), (4, 1)] := by kernel_rfl
theorem pl154 : Z1T P 154 = some [(0, 1), (1, 1)] := by kernel_rfl
theorem pl187 : Z1T P 187 = some [(0, 2), (2, 1)] := by kernel_rfl
theorem pl65 : Z1T P 65 = some [(0, 205)] := by kernel_rfl
theorem pl68 : Z1T P 68 = some [(0, 1), (1, 1), (2, 1)] := by kernel_rfl
theorem pl72 : Z1T P 72 = some [(0, 1)] := by kernel_rfl
theorem pl80 : Z1T P 80 = some [(0, 1), (1, 1), (2, 1)] := by kernel_rfl
theorem pl87 : Z1T P 87 = some [(0, 1), (1, 1), (2, 1), (3, 1), (4, 1)] := by kernel_rfl
theorem pl89 : Z1T P 89 = some [(0, 1), (1, 1), (2, 1), (3, 5)] := by kernel_rfl
theorem pl97 : Z1T P 97 = some [(0, 1), (1, 1), (2, 1)] := by kernel_rfl
theorem ta105 : (P.info? 105).map (fun i => i.zero.map (·.cells.toList)) = some (some [(.slice none 0 0)]) := by kernel_rfl
theorem ta107 : (P.info? 107).map (fun i => i.zero.map (·.cells.toList)) = some (some [(.slice none 0 0), (.slice none 0 0)]) := by kernel_rfl
theorem ta109 : (P.info? 109).map (fun i => i.zero.map (·.cells.toList)) = some (some [(.slice none 0 0), (.slice none 0 0), (.int .i64 0), (.int .u64 0)]) := by kernel_rfl
theorem ta119 : (P.info? 119).map (fun i => i.zero.map (·.cells.toList)) = some (some [(.int .i64 0), (.int .i64 0), (.int .i64 0), (.int .i64 0)]) := by kernel_rfl
theorem ta120 : (P.info? 120).map (fun i => i.zero.map (·.cells.toList)) = some (some [(.int .i64 0), (.int .i64 0), (.int .i64 0), (.int .i64 0), (.int .i64 0), (.int .i64 0), (.int .i64 0), (.int .i64 0)]) := by kernel_rfl
theorem ta140 : (P.info? 140).map (fun i => i.zero.map (·.cells.toList)) = some (some [(.int .u8 0), (.int .u8 0), (.int .u8 0), (.int .u8 0), (.int .u8 0), (.int .u8 0), (.int .u8 0), (.int .u8 0), (.int .u8 0), (.int .u8 0), (.int .u8 0), (.int .u8 0), (.int .u8 0), (.int .u8 0), (.int .u8 0), (.int .u8 0), (.int .u8 0), (.int .u8 0), (.int .u8 0), (.int .u8 0)]) := by kernel_rfl
theorem ta142 : (P.info? 142).map (fun i => i.zero.map (·.cells.toList)) = some (some [(.bool false), (.int .i64 0), (.slice none 0 0), (.slice none 0 0), (.int .i64 0)]) := by kernel_rfl
theorem ta154 : (P.info? 154).map (fun i => i.zero.map (·.cells.toList)) = some (some [(.int .u64 0), (.int .u64 0)]) := by kernel_rfl
theorem ta187 : (P.info? 187).map (fun i => i.zero.map (·.cells.toList)) = some (some [(.int .u64 0), (.int .u64 0), (.int .i64 0)]) := by kernel_rfl
theorem ta188 : (P.info? 188).map (fun i => i.zero.map (·.cells.toList)) = some (some [(.slice none 0 0)]) := by kernel_rfl
theorem ta204 : (P.info? 204).map (fun i => i.zero.map (·.cells.toList)) = some (some [(.pointer none)]) := by kernel_rfl
theorem ta65 : (P.info? 65).map (fun i => i.zero.map (·.cells.toList)) = some (some [(.int .u32 0), (.int .i32 0), (.int .u32 0), (.int .i64 0), (.pointer none), (.int .u32 0), (.int .i32 0), (.int .u32 0), (.int .i64 0), (.pointer none), (.int .u32 0), (.int .i32 0), (.int .u32 0), (.int .i64 0), (.pointer none), (.int .u32 0), (.int .i32 0), (.int .u32 0), (.int .i64 0), (.pointer none), (.int .u32 0), (.int .i32 0), (.int .u32 0), (.int .i64 0), (.pointer none), (.int .u32 0), (.int .i32 0), (.int .u32 0), (.int .i64 0), (.pointer none), (.int .u32 0), (.int .i32 0), (.int .u32 0), (.int .i64 0), (.pointer none), (.int .u32 0), (.int .i32 0), (.int .u32 0), (.int .i64 0), (.pointer none), (.int .u32 0), (.int .i32 0), (.int .u32 0), (.int .i64 0), (.pointer none), (.int .u32 0), (.int .i32 0), (.int .u32 0), (.int .i64 0), (.pointer none), (.int .u32 0), (.int .i32 0), (.int .u32 0), (.int .i64 0), (.pointer none), (.int .u32 0), (.int .i32 0), (.int .u32 0), (.int .i64 0), (.pointer none), (.int .u32 0), (.int .i32 0), (.int .u32 0), (.int .i64 0), (.pointer none), (.int .u32 0), (.int .i32 0), (.int .u32 0), (.int .i64 0), (.pointer none), (.int .u32 0), (.int .i32 0), (.int .u32 0), (.int .i64 0), (.pointer none), (.int .u32 0), (.int .i32 0), (.int .u32 0), (.int .i64 0), (.pointer none), (.int .u32 0), (.int .i32 0), (.int .u32 0), (.int .i64 0), (.pointer none), (.int .u32 0), (.int .i32 0), (.int .u32 0), (.int .i64 0), (.pointer none), (.int .u32 0), (.int .i32 0), (.int .u32 0), (.int .i64 0), (.pointer none), (.int .u32 0), (.int .i32 0), (.int .u32 0), (.int .i64 0), (.pointer none), (.int .u32 0), (.int .i32 0), (.int .u32 0), (.int .i64 0), (.pointer none), (.int .u32 0), (.int .i32 0), (.int .u32 0), (.int .i64 0), (.pointer none), (.int .u32 0), (.int .i32 0), (.int .u32 0), (.int .i64 0), (.pointer none), (.int .u32 0), (.int .i32 0), (.int .u32 0), (.int .i64 0), (.pointer none), (.int .u32 0), (.int .i32 0), (.int .u32 0), (.int .i64 0), (.pointer none), (.int .u32 0), (.int .i32 0), (.int .u32 0), (.int .i64 0), (.pointer none), (.int .u32 0), (.int .i32 0), (.int .u32 0), (.int .i64 0), (.pointer none), (.int .u32 0), (.int .i32 0), (.int .u32 0), (.int .i64 0), (.pointer none), (.int .u32 0), (.int .i32 0), (.int .u32 0), (.int .i64 0), (.pointer none), (.int .u32 0), (.int .i32 0), (.int .u32 0), (.int .i64 0), (.pointer none), (.int .u32 0), (.int .i32 0), (.int .u32 0), (.int .i64 0), (.pointer none), (.int .u32 0), (.int .i32 0), (.int .u32 0), (.int .i64 0), (.pointer none), (.int .u32 0), (.int .i32 0), (.int .u32 0), (.int .i64 0), (.pointer none), (.int .u32 0), (.int .i32 0), (.int .u32 0), (.int .i64 0), (.pointer none), (.int .u32 0), (.int .i32 0), (.int .u32 0), (.int .i64 0), (.pointer none), (.int .u32 0), (.int .i32 0), (.int .u32 0), (.int .i64 0), (.pointer none), (.int .u32 0), (.int .i32 0), (.int .u32 0), (.int .i64 0), (.pointer none), (.int .u32 0), (.int .i32 0), (.int .u32 0), (.int .i64 0), (.pointer none), (.int .u32 0), (.int .i32 0), (.int .u32 0), (.int .i64 0), (.pointer none), (.int .u32 0), (.int .i32 0), (.int .u32 0), (.int .i64 0), (.pointer none), (.int .u32 0), (.int .i32 0), (.int .u32 0), (.int .i64 0), (.pointer none)]) := by kernel_rfl
theorem ta68 : (P.info? 68).map (fun i => i.zero.map (·.cells.toList)) = some (some [(.bool false), (.int .u64 0), (.int .i64 0)]) := by kernel_rfl
theorem ta72 : (P.info? 72).map (fun i => i.zero.map (·.cells.toList)) = some (some [(.slice none 0 0)]) := by kernel_rfl
theorem ta80 : (P.info? 80).map (fun i => i.zero.map (·.cells.toList)) = some (some [(.int .i64 0), (.int .i64 0), (.int .i64 0)]) := by kernel_rfl
theorem ta87 : (P.info? 87).map (fun i => i.zero.map (·.cells.toList)) = some (some [(.bool false), (.int .i64 0), (.int .u64 0), (.int .i64 0), (.bool false)]) := by kernel_rfl
theorem ta89 : (P.info? 89).map (fun i => i.zero.map (·.cells.toList)) = some (some [(.pointer none), (.int .i64 0), (.slice none 0 0), (.bool false), (.int .i64 0), (.int .u64 0), (.int .i64 0), (.bool false)]) := by kernel_rfl
theorem ta97 : (P.info? 97).map (fun i => i.zero.map (·.cells.toList)) = some (some [(.int .i64 0), .nilFunc, .nilFunc]) := by kernel_rfl
theorem ti154 : (P.info? 154).map (fun i => (i.zero, i.size, i.bytes)) = some (some (.agg #[(.int .u64 0), (.int .u64 0)]), 2, 16) := by kernel_rfl
theorem ti187 : (P.info? 187).map (fun i => (i.zero, i.size, i.bytes)) = some (some (.agg #[(.int .u64 0), (.int .u64 0), (.int .i64 0)]), 3, 24) := by kernel_rfl
theorem ti22 : (P.info? 22).map (fun i => (i.zero, i.size, i.bytes)) = some (some (.int .u64 0), 1, 8) := by kernel_rfl
theorem ti5 : (P.info? 5).map (fun i => (i.zero, i.size, i.bytes)) = some (some (.int .u8 0), 1, 1) := by kernel_rfl
theorem ti97 : (P.info? 97).map (fun i => (i.zero, i.size, i.bytes)) = some (some (.agg #[(.int .i64 0), .nilFunc, .nilFunc]), 3, 24) := by kernel_rfl
theorem tz105 : (P.info? 105).map (·.size) = some 1 := by kernel_rfl
theorem Z4N : (P.info? 107).map (·.size) = some 2 := by kernel_rfl
theorem Z32 : (P.info? 109).map (·.size) = some 4 := by kernel_rfl
theorem tz119 : (P.info? 119).map (·.size) = some 4 := by kernel_rfl
theorem tz120 : (P.info? 120).map (·.size) = some 8 := by kernel_rfl
theorem Z11 : (P.info? 142).map (·.size) = some 5 := by kernel_rfl
theorem Z1u : (P.info? 154).map (·.size) = some 2 := by kernel_rfl
theorem tz187 : (P.info? 187).map (·.size) = some 3 := by kernel_rfl
theorem tz188 : (P.info? 188).map (·.size) = some 1 := by kernel_rfl
theorem tz203 : (P.info? 203).map (·.size) = some 8 := by kernel_rfl
theorem tz204 : (P.info? 204).map (·.size) = some 1 := by kernel_rfl
theorem tz22 : (P.info? 22).map (·.size) = some 1 := by kernel_rfl
theorem tz26 : (P.info? 26).map (·.size) = some 1 := by kernel_rfl
theorem tz3 : (P.info? 3).map (·.size) = some 1 := by kernel_rfl
theorem tz4 : (P.info? 4).map (·.size) = some 1 := by kernel_rfl
theorem tz5 : (P.info? 5).map (·.size) = some 1 := by kernel_rfl
theorem tz62 : (P.info? 62).map (·.size) = some 5 := by kernel_rfl
theorem tz68 : (P.info? 68).map (·.size) = some 3 := by kernel_rfl
theorem tz80 : (P.info? 80).map (·.size) = some 3 := by kernel_rfl
theorem tz87 : (P.info? 87).map (·.size) = some 5 := by kernel_rfl
theorem tz89 : (P.info? 89).map (·.size) = some 8 := by kernel_rfl
theorem tz97 : (P.info? 97).map (·.size) = some 3 := by kernel_rfl
end Go.Proofs.YtfomhfbmmjhljaaGreatDoor.W
