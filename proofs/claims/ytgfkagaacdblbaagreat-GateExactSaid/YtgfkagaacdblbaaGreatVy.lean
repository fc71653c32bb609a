/- facts on types, the later ones -/
import Derived.Test.YtgfkagaacdblbaaGreatVx
namespace Go.Proofs.YtgfkagaacdblbaaGreat.W
open Go.Vc
theorem fl44 : flatT P 44 = some [(0, .int .i64), (1, .int .i64), (2, .int .i64)] := by kernel_rfl
theorem fl85 : flatT P 85 = some [(0, .int .u64), (1, .int .u64)] := by kernel_rfl
theorem fl87 : flatT P 87 = some [(0, .int .i64), (1, .int .i64)] := by kernel_rfl
theorem fo109_0 : Z0C P 109 0 = some 0 := by kernel_rfl
theorem Z4V : Z0C P 109 1 = some 1 := by kernel_rfl
theorem Z3h : Z0C P 109 2 = some 2 := by kernel_rfl
theorem Z22 : Z0C P 109 3 = some 3 := by kernel_rfl
theorem fo109_4 : Z0C P 109 4 = some 4 := by kernel_rfl
theorem fo36_0 : Z0C P 36 0 = some 0 := by kernel_rfl
theorem Z1x : Z0C P 36 1 = some 1 := by kernel_rfl
theorem fo36_2 : Z0C P 36 2 = some 2 := by kernel_rfl
theorem Z1K : Z0C P 36 3 = some 3 := by kernel_rfl
theorem Z2I : Z0C P 56 0 = some 0 := by kernel_rfl
theorem fo56_1 : Z0C P 56 1 = some 1 := by kernel_rfl
theorem Z3y : Z0C P 58 0 = some 0 := by kernel_rfl
theorem fo58_1 : Z0C P 58 1 = some 1 := by kernel_rfl
theorem fo58_2 : Z0C P 58 2 = some 2 := by kernel_rfl
theorem Z4p : Z0C P 61 0 = some 0 := by kernel_rfl
theorem Z3K : Z0C P 63 0 = some 0 := by kernel_rfl
theorem fo63_1 : Z0C P 63 1 = some 2 := by kernel_rfl
theorem fo63_2 : Z0C P 63 2 = some 125 := by kernel_rfl
theorem fo71_0 : Z0C P 71 0 = some 0 := by kernel_rfl
theorem fo71_1 : Z0C P 71 1 = some 1 := by kernel_rfl
theorem fo71_2 : Z0C P 71 2 = some 2 := by kernel_rfl
theorem fo78_0 : Z0C P 78 0 = some 0 := by kernel_rfl
theorem fo78_1 : Z0C P 78 1 = some 41 := by kernel_rfl
theorem fo78_2 : Z0C P 78 2 = some 82 := by kernel_rfl
theorem Z24 : Z0C P 80 0 = some 0 := by kernel_rfl
theorem Z3z : Z0C P 80 1 = some 1 := by kernel_rfl
theorem fo80_2 : Z0C P 80 2 = some 124 := by kernel_rfl
theorem Z4q : Z0C P 82 0 = some 0 := by kernel_rfl
theorem Z2y : Z0C P 82 1 = some 1 := by kernel_rfl
theorem Z2f : Z0C P 82 2 = some 2 := by kernel_rfl
theorem fo82_3 : Z0C P 82 3 = some 3 := by kernel_rfl
theorem Z4g : Z0C P 82 4 = some 4 := by kernel_rfl
theorem fo87_0 : Z0C P 87 0 = some 0 := by kernel_rfl
theorem fo87_1 : Z0C P 87 1 = some 1 := by kernel_rfl
theorem pl109 : Z2V P 109 = some [(0, 1), (1, 1), (2, 1), (3, 1), (4, 1)] := by kernel_rfl
theorem pl36 : Z2V P 36 = some [(0, 1), (1, 1), (2, 1), (3, 1)] := by kernel_rfl
theorem pl44 : Z2V P 44 = some [(0, 1), (1, 1), (2, 1)] := by kernel_rfl
theorem pl63 : Z2V P 63 = some [(0, 2), (2, 123), (125, 1)] := by kernel_rfl
theorem pl71 : Z2V P 71 = some [(0, 1), (1, 1), (2, 1)] := by kernel_rfl
theorem pl80 : Z2V P 80 = some [(0, 1), (1, 123), (124, 1)] := by kernel_rfl
theorem pl82 : Z2V P 82 = some [(0, 1), (1, 1), (2, 1), (3, 1), (4, 1)] := by kernel_rfl
theorem pl87 : Z2V P 87 = some [(0, 1), (1, 1)] := by kernel_rfl
theorem ta109 : (P.info? 109).map (fun i => i.zero.map (·.cells.toList)) = some (some [(.pointer none), (.slice none 0 0), (.int .i64 0), (.int .i64 0), (.slice none 0 0)]) := by kernel_rfl
theorem ta36 : (P.info? 36).map (fun i => i.zero.map (·.cells.toList)) = some (some [(.int .i64 0), (.int .i64 0), (.slice none 0 0), (.int .i64 0)]) := by kernel_rfl
theorem ta4 : (P.info? 4).map (fun i => i.zero.map (·.cells.toList)) = some (some [(.bool false)]) := by kernel_rfl
theorem ta44 : (P.info? 44).map (fun i => i.zero.map (·.cells.toList)) = some (some [(.int .i64 0), (.int .i64 0), (.int .i64 0)]) := by kernel_rfl
theorem ta50 : (P.info? 50).map (fun i => i.zero.map (·.cells.toList)) = some (some [(.slice none 0 0)]) := by kernel_rfl
theorem ta58 : (P.info? 58).map (fun i => i.zero.map (·.cells.toList)) = some (some [(.slice none 0 0), (.int .i64 0), (.bool false)]) := by kernel_rfl
theorem ta63 : (P.info? 63).map (fun i => i.zero.map (·.cells.toList)) = some (some [(.slice none 0 0), (.int .i64 0), (.slice none 0 0), (.int .i64 0), (.bool false), (.slice none 0 0), (.int .i64 0), (.bool false), (.slice none 0 0), (.int .i64 0), (.bool false), (.slice none 0 0), (.int .i64 0), (.bool false), (.slice none 0 0), (.int .i64 0), (.bool false), (.slice none 0 0), (.int .i64 0), (.bool false), (.slice none 0 0), (.int .i64 0), (.bool false), (.slice none 0 0), (.int .i64 0), (.bool false), (.slice none 0 0), (.int .i64 0), (.bool false), (.slice none 0 0), (.int .i64 0), (.bool false), (.slice none 0 0), (.int .i64 0), (.bool false), (.slice none 0 0), (.int .i64 0), (.bool false), (.slice none 0 0), (.int .i64 0), (.bool false), (.slice none 0 0), (.int .i64 0), (.bool false), (.slice none 0 0), (.int .i64 0), (.bool false), (.slice none 0 0), (.int .i64 0), (.bool false), (.slice none 0 0), (.int .i64 0), (.bool false), (.slice none 0 0), (.int .i64 0), (.bool false), (.slice none 0 0), (.int .i64 0), (.bool false), (.slice none 0 0), (.int .i64 0), (.bool false), (.slice none 0 0), (.int .i64 0), (.bool false), (.slice none 0 0), (.int .i64 0), (.bool false), (.slice none 0 0), (.int .i64 0), (.bool false), (.slice none 0 0), (.int .i64 0), (.bool false), (.slice none 0 0), (.int .i64 0), (.bool false), (.slice none 0 0), (.int .i64 0), (.bool false), (.slice none 0 0), (.int .i64 0), (.bool false), (.slice none 0 0), (.int .i64 0), (.bool false), (.slice none 0 0), (.int .i64 0), (.bool false), (.slice none 0 0), (.int .i64 0), (.bool false), (.slice none 0 0), (.int .i64 0), (.bool false), (.slice none 0 0), (.int .i64 0), (.bool false), (.slice none 0 0), (.int .i64 0), (.bool false), (.slice none 0 0), (.int .i64 0), (.bool false), (.slice none 0 0), (.int .i64 0), (.bool false), (.slice none 0 0), (.int .i64 0), (.bool false), (.slice none 0 0), (.int .i64 0), (.bool false), (.slice none 0 0), (.int .i64 0), (.bool false), (.slice none 0 0), (.int .i64 0), (.bool false), (.slice none 0 0), (.int .i64 0), (.bool false), (.slice none 0 0), (.int .i64 0), (.bool false), (.slice none 0 0)]) := by kernel_rfl
theorem ta71 : (P.info? 71).map (fun i => i.zero.map (·.cells.toList)) = some (some [.nilFunc, .nilFunc, .nilFunc]) := by kernel_rfl
theorem ta80 : (P.info? 80).map (fun i => i.zero.map (·.cells.toList)) = some (some [(.slice none 0 0), (.int .i64 0), (.int .i64 0), (.int .i64 0), (.int .i64 0), (.int .i64 0), (.int .i64 0), (.int .i64 0), (.int .i64 0), (.int .i64 0), (.int .i64 0), (.int .i64 0), (.int .i64 0), (.int .i64 0), (.int .i64 0), (.int .i64 0), (.int .i64 0), (.int .i64 0), (.int .i64 0), (.int .i64 0), (.int .i64 0), (.int .i64 0), (.int .i64 0), (.int .i64 0), (.int .i64 0), (.int .i64 0), (.int .i64 0), (.int .i64 0), (.int .i64 0), (.int .i64 0), (.int .i64 0), (.int .i64 0), (.int .i64 0), (.int .i64 0), (.int .i64 0), (.int .i64 0), (.int .i64 0), (.int .i64 0), (.int .i64 0), (.int .i64 0), (.int .i64 0), (.int .i64 0), (.int .i64 0), (.int .i64 0), (.int .i64 0), (.int .i64 0), (.int .i64 0), (.int .i64 0), (.int .i64 0), (.int .i64 0), (.int .i64 0), (.int .i64 0), (.int .i64 0), (.int .i64 0), (.int .i64 0), (.int .i64 0), (.int .i64 0), (.int .i64 0), (.int .i64 0), (.int .i64 0), (.int .i64 0), (.int .i64 0), (.int .i64 0), (.int .i64 0), (.int .i64 0), (.int .i64 0), (.int .i64 0), (.int .i64 0), (.int .i64 0), (.int .i64 0), (.int .i64 0), (.int .i64 0), (.int .i64 0), (.int .i64 0), (.int .i64 0), (.int .i64 0), (.int .i64 0), (.int .i64 0), (.int .i64 0), (.int .i64 0), (.int .i64 0), (.int .i64 0), (.int .i64 0), (.int .i64 0), (.int .i64 0), (.int .i64 0), (.int .i64 0), (.int .i64 0), (.int .i64 0), (.int .i64 0), (.int .i64 0), (.int .i64 0), (.int .i64 0), (.int .i64 0), (.int .i64 0), (.int .i64 0), (.int .i64 0), (.int .i64 0), (.int .i64 0), (.int .i64 0), (.int .i64 0), (.int .i64 0), (.int .i64 0), (.int .i64 0), (.int .i64 0), (.int .i64 0), (.int .i64 0), (.int .i64 0), (.int .i64 0), (.int .i64 0), (.int .i64 0), (.int .i64 0), (.int .i64 0), (.int .i64 0), (.int .i64 0), (.int .i64 0), (.int .i64 0), (.int .i64 0), (.int .i64 0), (.int .i64 0), (.int .i64 0), (.int .i64 0), (.int .i64 0), (.int .i64 0), (.int .i64 0)]) := by kernel_rfl
theorem ta82 : (P.info? 82).map (fun i => i.zero.map (·.cells.toList)) = some (some [(.slice none 0 0), (.int .i64 0), (.int .i64 0), (.int .i64 0), (.slice none 0 0)]) := by kernel_rfl
theorem ta87 : (P.info? 87).map (fun i => i.zero.map (·.cells.toList)) = some (some [(.int .i64 0), (.int .i64 0)]) := by kernel_rfl
theorem ta94 : (P.info? 94).map (fun i => i.zero.map (·.cells.toList)) = some (some [(.pointer none)]) := by kernel_rfl
theorem ti34 : (P.info? 34).map (fun i => (i.zero, i.size, i.bytes)) = some (some (.slice none 0 0), 1, 24) := by kernel_rfl
theorem ti47 : (P.info? 47).map (fun i => (i.zero, i.size, i.bytes)) = some (some (.slice none 0 0), 1, 24) := by kernel_rfl
theorem ti71 : (P.info? 71).map (fun i => (i.zero, i.size, i.bytes)) = some (some (.agg #[.nilFunc, .nilFunc, .nilFunc]), 3, 24) := by kernel_rfl
theorem ti82 : (P.info? 82).map (fun i => (i.zero, i.size, i.bytes)) = some (some (.agg #[(.slice none 0 0), (.int .i64 0), (.int .i64 0), (.int .i64 0), (.slice none 0 0)]), 5, 72) := by kernel_rfl
theorem ti87 : (P.info? 87).map (fun i => (i.zero, i.size, i.bytes)) = some (some (.agg #[(.int .i64 0), (.int .i64 0)]), 2, 16) := by kernel_rfl
theorem tz34 : (P.info? 34).map (·.size) = some 1 := by kernel_rfl
theorem tz36 : (P.info? 36).map (·.size) = some 4 := by kernel_rfl
theorem tz4 : (P.info? 4).map (·.size) = some 1 := by kernel_rfl
theorem tz44 : (P.info? 44).map (·.size) = some 3 := by kernel_rfl
theorem tz47 : (P.info? 47).map (·.size) = some 1 := by kernel_rfl
theorem tz50 : (P.info? 50).map (·.size) = some 1 := by kernel_rfl
theorem tz54 : (P.info? 54).map (·.size) = some 1 := by kernel_rfl
theorem tz58 : (P.info? 58).map (·.size) = some 3 := by kernel_rfl
theorem tz71 : (P.info? 71).map (·.size) = some 3 := by kernel_rfl
theorem tz75 : (P.info? 75).map (·.size) = some 1 := by kernel_rfl
theorem tz82 : (P.info? 82).map (·.size) = some 5 := by kernel_rfl
theorem tz87 : (P.info? 87).map (·.size) = some 2 := by kernel_rfl
theorem tz94 : (P.info? 94).map (·.size) = some 1 := by kernel_rfl
end Go.Proofs.YtgfkagaacdblbaaGreat.W
