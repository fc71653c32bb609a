/- Functions as values: made with what they hold, and called. -/
import Derived.Test.YtojjlipcjdaejaaDoorVi
set_option linter.unusedVariables false
set_option linter.unusedSimpArgs false
namespace Go.Vc
open Go.RowKit
section
variable {P : Program} {N : Nat} {ops : Array Oper} {Q : PostM} {ρ : Env} {w w0 : World} {rest : List Oper} {d : Nat} {ty : TypeId} {pos : String} {af : Array Edge} {g : Option (Nat × Bool)}
end
end Go.Vc
