/- facts on types, the later ones -/
import Derived.Test.YtgfkagaacdblbaaVx
namespace Go.Proofs.Ytgfkagaacdblbaa.W
open Go.Vc
theorem fl47 : flatT P 47 = some [(0, .int .i64), (1, .int .i64)] := by kernel_rfl
theorem fl77 : flatT P 77 = some [(0, .int .u64), (1, .int .u64)] := by kernel_rfl
theorem fo41_0 : fieldOff P 41 0 = some 0 := by kernel_rfl
theorem fo41_1 : fieldOff P 41 1 = some 1 := by kernel_rfl
theorem fo41_2 : fieldOff P 41 2 = some 2 := by kernel_rfl
theorem fo47_0 : fieldOff P 47 0 = some 0 := by kernel_rfl
theorem fo47_1 : fieldOff P 47 1 = some 1 := by kernel_rfl
theorem fo59_0 : fieldOff P 59 0 = some 0 := by kernel_rfl
theorem fo59_1 : fieldOff P 59 1 = some 1 := by kernel_rfl
theorem fo61_0 : fieldOff P 61 0 = some 0 := by kernel_rfl
theorem fo61_1 : fieldOff P 61 1 = some 1 := by kernel_rfl
theorem fo61_2 : fieldOff P 61 2 = some 2 := by kernel_rfl
theorem fo64_0 : fieldOff P 64 0 = some 0 := by kernel_rfl
theorem fo66_0 : fieldOff P 66 0 = some 0 := by kernel_rfl
theorem fo66_1 : fieldOff P 66 1 = some 2 := by kernel_rfl
theorem fo66_2 : fieldOff P 66 2 = some 125 := by kernel_rfl
theorem fo73_0 : fieldOff P 73 0 = some 0 := by kernel_rfl
theorem fo73_1 : fieldOff P 73 1 = some 1 := by kernel_rfl
theorem fo73_2 : fieldOff P 73 2 = some 2 := by kernel_rfl
theorem fo99_0 : fieldOff P 99 0 = some 0 := by kernel_rfl
theorem fo99_1 : fieldOff P 99 1 = some 1 := by kernel_rfl
theorem fo99_2 : fieldOff P 99 2 = some 2 := by kernel_rfl
theorem fo99_3 : fieldOff P 99 3 = some 3 := by kernel_rfl
theorem fo99_4 : fieldOff P 99 4 = some 4 := by kernel_rfl
theorem pl41 : places P 41 = some [(0, 1), (1, 1), (2, 1)] := by kernel_rfl
theorem pl47 : places P 47 = some [(0, 1), (1, 1)] := by kernel_rfl
theorem pl66 : places P 66 = some [(0, 2), (2, 123), (125, 1)] := by kernel_rfl
theorem pl73 : places P 73 = some [(0, 1), (1, 1), (2, 1)] := by kernel_rfl
theorem pl99 : places P 99 = some [(0, 1), (1, 1), (2, 1), (3, 1), (4, 1)] := by kernel_rfl
theorem ta38 : (P.info? 38).map (fun i => i.zero.map (·.cells.toList)) = some (some [(.slice none 0 0)]) := by kernel_rfl
theorem ta4 : (P.info? 4).map (fun i => i.zero.map (·.cells.toList)) = some (some [(.bool false)]) := by kernel_rfl
theorem ta41 : (P.info? 41).map (fun i => i.zero.map (·.cells.toList)) = some (some [(.int .i64 0), (.int .i64 0), (.int .i64 0)]) := by kernel_rfl
theorem ta47 : (P.info? 47).map (fun i => i.zero.map (·.cells.toList)) = some (some [(.int .i64 0), (.int .i64 0)]) := by kernel_rfl
theorem ta49 : (P.info? 49).map (fun i => i.zero.map (·.cells.toList)) = some (some [(.bool false), (.bool false), (.bool false), (.bool false), (.bool false), (.bool false), (.bool false), (.bool false), (.bool false), (.bool false), (.bool false), (.bool false), (.bool false), (.bool false), (.bool false), (.bool false), (.bool false), (.bool false), (.bool false), (.bool false), (.bool false), (.bool false), (.bool false), (.bool false), (.bool false), (.bool false), (.bool false), (.bool false), (.bool false), (.bool false), (.bool false), (.bool false), (.bool false), (.bool false), (.bool false), (.bool false), (.bool false), (.bool false), (.bool false), (.bool false), (.bool false)]) := by kernel_rfl
theorem ta54 : (P.info? 54).map (fun i => i.zero.map (·.cells.toList)) = some (some [(.int .i64 0), (.int .i64 0), (.int .i64 0), (.int .i64 0), (.int .i64 0), (.int .i64 0), (.int .i64 0), (.int .i64 0), (.int .i64 0), (.int .i64 0), (.int .i64 0), (.int .i64 0), (.int .i64 0), (.int .i64 0), (.int .i64 0), (.int .i64 0), (.int .i64 0), (.int .i64 0), (.int .i64 0), (.int .i64 0), (.int .i64 0), (.int .i64 0), (.int .i64 0), (.int .i64 0), (.int .i64 0), (.int .i64 0), (.int .i64 0), (.int .i64 0), (.int .i64 0), (.int .i64 0), (.int .i64 0), (.int .i64 0), (.int .i64 0), (.int .i64 0), (.int .i64 0), (.int .i64 0), (.int .i64 0), (.int .i64 0), (.int .i64 0), (.int .i64 0), (.int .i64 0)]) := by kernel_rfl
theorem ta61 : (P.info? 61).map (fun i => i.zero.map (·.cells.toList)) = some (some [(.slice none 0 0), (.int .i64 0), (.bool false)]) := by kernel_rfl
theorem ta66 : (P.info? 66).map (fun i => i.zero.map (·.cells.toList)) = some (some [(.slice none 0 0), (.int .i64 0), (.slice none 0 0), (.int .i64 0), (.bool false), (.slice none 0 0), (.int .i64 0), (.bool false), (.slice none 0 0), (.int .i64 0), (.bool false), (.slice none 0 0), (.int .i64 0), (.bool false), (.slice none 0 0), (.int .i64 0), (.bool false), (.slice none 0 0), (.int .i64 0), (.bool false), (.slice none 0 0), (.int .i64 0), (.bool false), (.slice none 0 0), (.int .i64 0), (.bool false), (.slice none 0 0), (.int .i64 0), (.bool false), (.slice none 0 0), (.int .i64 0), (.bool false), (.slice none 0 0), (.int .i64 0), (.bool false), (.slice none 0 0), (.int .i64 0), (.bool false), (.slice none 0 0), (.int .i64 0), (.bool false), (.slice none 0 0), (.int .i64 0), (.bool false), (.slice none 0 0), (.int .i64 0), (.bool false), (.slice none 0 0), (.int .i64 0), (.bool false), (.slice none 0 0), (.int .i64 0), (.bool false), (.slice none 0 0), (.int .i64 0), (.bool false), (.slice none 0 0), (.int .i64 0), (.bool false), (.slice none 0 0), (.int .i64 0), (.bool false), (.slice none 0 0), (.int .i64 0), (.bool false), (.slice none 0 0), (.int .i64 0), (.bool false), (.slice none 0 0), (.int .i64 0), (.bool false), (.slice none 0 0), (.int .i64 0), (.bool false), (.slice none 0 0), (.int .i64 0), (.bool false), (.slice none 0 0), (.int .i64 0), (.bool false), (.slice none 0 0), (.int .i64 0), (.bool false), (.slice none 0 0), (.int .i64 0), (.bool false), (.slice none 0 0), (.int .i64 0), (.bool false), (.slice none 0 0), (.int .i64 0), (.bool false), (.slice none 0 0), (.int .i64 0), (.bool false), (.slice none 0 0), (.int .i64 0), (.bool false), (.slice none 0 0), (.int .i64 0), (.bool false), (.slice none 0 0), (.int .i64 0), (.bool false), (.slice none 0 0), (.int .i64 0), (.bool false), (.slice none 0 0), (.int .i64 0), (.bool false), (.slice none 0 0), (.int .i64 0), (.bool false), (.slice none 0 0), (.int .i64 0), (.bool false), (.slice none 0 0), (.int .i64 0), (.bool false), (.slice none 0 0), (.int .i64 0), (.bool false), (.slice none 0 0), (.int .i64 0), (.bool false), (.slice none 0 0)]) := by kernel_rfl
theorem ta73 : (P.info? 73).map (fun i => i.zero.map (·.cells.toList)) = some (some [.nilFunc, .nilFunc, .nilFunc]) := by kernel_rfl
theorem ta83 : (P.info? 83).map (fun i => i.zero.map (·.cells.toList)) = some (some [(.pointer none)]) := by kernel_rfl
theorem ta99 : (P.info? 99).map (fun i => i.zero.map (·.cells.toList)) = some (some [(.pointer none), (.slice none 0 0), (.int .i64 0), (.int .i64 0), (.slice none 0 0)]) := by kernel_rfl
theorem ti23 : (P.info? 23).map (fun i => (i.zero, i.size, i.bytes)) = some (some (.slice none 0 0), 1, 24) := by kernel_rfl
theorem ti3 : (P.info? 3).map (fun i => (i.zero, i.size, i.bytes)) = some (some (.int .i64 0), 1, 8) := by kernel_rfl
theorem ti34 : (P.info? 34).map (fun i => (i.zero, i.size, i.bytes)) = some (some (.slice none 0 0), 1, 24) := by kernel_rfl
theorem ti47 : (P.info? 47).map (fun i => (i.zero, i.size, i.bytes)) = some (some (.agg #[(.int .i64 0), (.int .i64 0)]), 2, 16) := by kernel_rfl
theorem ti73 : (P.info? 73).map (fun i => (i.zero, i.size, i.bytes)) = some (some (.agg #[.nilFunc, .nilFunc, .nilFunc]), 3, 24) := by kernel_rfl
theorem tz23 : (P.info? 23).map (·.size) = some 1 := by kernel_rfl
theorem tz3 : (P.info? 3).map (·.size) = some 1 := by kernel_rfl
theorem tz34 : (P.info? 34).map (·.size) = some 1 := by kernel_rfl
theorem tz38 : (P.info? 38).map (·.size) = some 1 := by kernel_rfl
theorem tz4 : (P.info? 4).map (·.size) = some 1 := by kernel_rfl
theorem tz41 : (P.info? 41).map (·.size) = some 3 := by kernel_rfl
theorem tz47 : (P.info? 47).map (·.size) = some 2 := by kernel_rfl
theorem tz57 : (P.info? 57).map (·.size) = some 1 := by kernel_rfl
theorem tz61 : (P.info? 61).map (·.size) = some 3 := by kernel_rfl
theorem tz73 : (P.info? 73).map (·.size) = some 3 := by kernel_rfl
theorem tz83 : (P.info? 83).map (·.size) = some 1 := by kernel_rfl
end Go.Proofs.Ytgfkagaacdblbaa.W
