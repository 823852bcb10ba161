
import Derived.Test.YtapbbmicfkbafaaWInv
import Derived.Test.YtapbbmicfkbafaaWFootNe
namespace Go.Proofs.YtapbbmicfkbafaaW.PrintWords
open Go.RowKit
end Go.Proofs.YtapbbmicfkbafaaW.PrintWords
namespace Go.Proofs.YtapbbmicfkbafaaW.PrintLast
section
variable {ops : Array Oper} {a : Act} {o og : Oper} {g : Nat} {t : Tmp} {u : Bool}
end
end Go.Proofs.YtapbbmicfkbafaaW.PrintLast
