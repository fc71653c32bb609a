/- facts on types of the translation, each closed -/
import Derived.Test.YtnddfmjmeghkjaaVi
import Derived.Test.YtnddfmjmeghkjaaProg
namespace Go.Proofs.Ytnddfmjmeghkjaa.W
open Go.Vc
noncomputable abbrev P : Program := Try.prog
theorem fo24_0 : fieldOff P 24 0 = some 0 := by kernel_rfl
theorem fo24_1 : fieldOff P 24 1 = some 1 := by kernel_rfl
theorem fo51_0 : fieldOff P 51 0 = some 0 := by kernel_rfl
theorem fo51_2 : fieldOff P 51 2 = some 2 := by kernel_rfl
theorem fo51_3 : fieldOff P 51 3 = some 3 := by kernel_rfl
theorem fo51_4 : fieldOff P 51 4 = some 4 := by kernel_rfl
theorem pl51 : places P 51 = some [(0, 1), (1, 1), (2, 1), (3, 1), (4, 1), (5, 1)] := by kernel_rfl
theorem ta51 : (P.info? 51).map (fun i => i.zero.map (·.cells.toList)) = some (some [(.slice none 0 0), (.slice none 0 0), (.slice none 0 0), (.slice none 0 0), (.slice none 0 0), (.slice none 0 0)]) := by kernel_rfl
theorem ti22 : (P.info? 22).map (fun i => (i.zero, i.size, i.bytes)) = some (some (.int .u64 0), 1, 8) := by kernel_rfl
theorem ti25 : (P.info? 25).map (fun i => (i.zero, i.size, i.bytes)) = some (some (.slice none 0 0), 1, 24) := by kernel_rfl
theorem ti3 : (P.info? 3).map (fun i => (i.zero, i.size, i.bytes)) = some (some (.int .i64 0), 1, 8) := by kernel_rfl
theorem ti5 : (P.info? 5).map (fun i => (i.zero, i.size, i.bytes)) = some (some (.int .u8 0), 1, 1) := by kernel_rfl
theorem tz22 : (P.info? 22).map (·.size) = some 1 := by kernel_rfl
theorem tz24 : (P.info? 24).map (·.size) = some 2 := by kernel_rfl
theorem tz25 : (P.info? 25).map (·.size) = some 1 := by kernel_rfl
theorem tz3 : (P.info? 3).map (·.size) = some 1 := by kernel_rfl
theorem tz48 : (P.info? 48).map (·.size) = some 1 := by kernel_rfl
theorem tz5 : (P.info? 5).map (·.size) = some 1 := by kernel_rfl
end Go.Proofs.Ytnddfmjmeghkjaa.W
