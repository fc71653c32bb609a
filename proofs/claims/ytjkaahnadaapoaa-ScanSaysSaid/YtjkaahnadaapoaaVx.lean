/- facts on types of the translation, each closed -/
import Derived.Test.YtjkaahnadaapoaaVg
import Derived.Test.YtjkaahnadaapoaaProg
namespace Go.Proofs.Ytjkaahnadaapoaa.W
open Go.Vc
noncomputable abbrev P : Program := Try.prog
theorem fl27 : flatT P 27 = some [(0, .bool), (1, .int .i64), (2, .int .u64), (3, .int .i64), (4, .bool)] := by kernel_rfl
theorem fo27_0 : fieldOff P 27 0 = some 0 := by kernel_rfl
theorem fo27_1 : fieldOff P 27 1 = some 1 := by kernel_rfl
theorem fo27_2 : fieldOff P 27 2 = some 2 := by kernel_rfl
theorem fo27_3 : fieldOff P 27 3 = some 3 := by kernel_rfl
theorem fo27_4 : fieldOff P 27 4 = some 4 := by kernel_rfl
theorem fo38_0 : fieldOff P 38 0 = some 0 := by kernel_rfl
theorem fo38_1 : fieldOff P 38 1 = some 1 := by kernel_rfl
theorem fo38_2 : fieldOff P 38 2 = some 2 := by kernel_rfl
theorem fo38_3 : fieldOff P 38 3 = some 3 := by kernel_rfl
theorem fo38_4 : fieldOff P 38 4 = some 4 := by kernel_rfl
theorem fo38_5 : fieldOff P 38 5 = some 5 := by kernel_rfl
theorem fo38_6 : fieldOff P 38 6 = some 6 := by kernel_rfl
theorem fo55_0 : fieldOff P 55 0 = some 0 := by kernel_rfl
theorem fo55_2 : fieldOff P 55 2 = some 2 := by kernel_rfl
theorem fo55_3 : fieldOff P 55 3 = some 3 := by kernel_rfl
theorem fo55_4 : fieldOff P 55 4 = some 4 := by kernel_rfl
theorem fo62_0 : fieldOff P 62 0 = some 0 := by kernel_rfl
theorem fo62_1 : fieldOff P 62 1 = some 1 := by kernel_rfl
theorem fo62_2 : fieldOff P 62 2 = some 2 := by kernel_rfl
theorem fo62_3 : fieldOff P 62 3 = some 3 := by kernel_rfl
theorem fo62_4 : fieldOff P 62 4 = some 4 := by kernel_rfl
theorem fo69_0 : fieldOff P 69 0 = some 0 := by kernel_rfl
theorem fo69_1 : fieldOff P 69 1 = some 1 := by kernel_rfl
theorem fo69_2 : fieldOff P 69 2 = some 2 := by kernel_rfl
theorem fo69_3 : fieldOff P 69 3 = some 3 := by kernel_rfl
theorem fo69_4 : fieldOff P 69 4 = some 4 := by kernel_rfl
theorem fo69_5 : fieldOff P 69 5 = some 5 := by kernel_rfl
theorem pl27 : places P 27 = some [(0, 1), (1, 1), (2, 1), (3, 1), (4, 1)] := by kernel_rfl
theorem pl55 : places P 55 = some [(0, 1), (1, 1), (2, 1), (3, 1), (4, 1), (5, 1)] := by kernel_rfl
theorem pl62 : places P 62 = some [(0, 1), (1, 1), (2, 1), (3, 1), (4, 1)] := by kernel_rfl
theorem pl69 : places P 69 = some [(0, 1), (1, 1), (2, 1), (3, 1), (4, 1), (5, 1)] := by kernel_rfl
theorem ta27 : (P.info? 27).map (fun i => i.zero.map (·.cells.toList)) = some (some [(.bool false), (.int .i64 0), (.int .u64 0), (.int .i64 0), (.bool false)]) := by kernel_rfl
theorem ta55 : (P.info? 55).map (fun i => i.zero.map (·.cells.toList)) = some (some [(.slice none 0 0), (.slice none 0 0), (.slice none 0 0), (.slice none 0 0), (.slice none 0 0), (.slice none 0 0)]) := by kernel_rfl
theorem ta62 : (P.info? 62).map (fun i => i.zero.map (·.cells.toList)) = some (some [(.bool false), (.int .i64 0), (.slice none 0 0), (.slice none 0 0), (.int .i64 0)]) := by kernel_rfl
theorem ta69 : (P.info? 69).map (fun i => i.zero.map (·.cells.toList)) = some (some [(.bool false), (.int .i64 0), (str []), (str []), (.bool false), (str [])]) := by kernel_rfl
theorem ti25 : (P.info? 25).map (fun i => (i.zero, i.size, i.bytes)) = some (some (.int .u64 0), 1, 8) := by kernel_rfl
theorem ti3 : (P.info? 3).map (fun i => (i.zero, i.size, i.bytes)) = some (some (.int .i64 0), 1, 8) := by kernel_rfl
theorem ti42 : (P.info? 42).map (fun i => (i.zero, i.size, i.bytes)) = some (some (.slice none 0 0), 1, 24) := by kernel_rfl
theorem ti5 : (P.info? 5).map (fun i => (i.zero, i.size, i.bytes)) = some (some (.int .u8 0), 1, 1) := by kernel_rfl
theorem ti9 : (P.info? 9).map (fun i => (i.zero, i.size, i.bytes)) = some (some (str []), 1, 16) := by kernel_rfl
theorem tz101 : (P.info? 101).map (·.size) = some 8 := by kernel_rfl
theorem tz22 : (P.info? 22).map (·.size) = some 1 := by kernel_rfl
theorem tz25 : (P.info? 25).map (·.size) = some 1 := by kernel_rfl
theorem tz27 : (P.info? 27).map (·.size) = some 5 := by kernel_rfl
theorem tz3 : (P.info? 3).map (·.size) = some 1 := by kernel_rfl
theorem tz38 : (P.info? 38).map (·.size) = some 7 := by kernel_rfl
theorem tz4 : (P.info? 4).map (·.size) = some 1 := by kernel_rfl
theorem tz42 : (P.info? 42).map (·.size) = some 1 := by kernel_rfl
theorem tz5 : (P.info? 5).map (·.size) = some 1 := by kernel_rfl
theorem tz52 : (P.info? 52).map (·.size) = some 1 := by kernel_rfl
theorem tz62 : (P.info? 62).map (·.size) = some 5 := by kernel_rfl
theorem tz69 : (P.info? 69).map (·.size) = some 6 := by kernel_rfl
theorem tz9 : (P.info? 9).map (·.size) = some 1 := by kernel_rfl
end Go.Proofs.Ytjkaahnadaapoaa.W
