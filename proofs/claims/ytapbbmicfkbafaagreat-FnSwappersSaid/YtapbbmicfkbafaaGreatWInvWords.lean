
import Derived.Test.YtapbbmicfkbafaaGreatWInv
import Derived.Test.YtapbbmicfkbafaaGreatWFootNe
namespace Go.Proofs.YtapbbmicfkbafaaGreatW.PrintWords
open Go.RowKit
end Go.Proofs.YtapbbmicfkbafaaGreatW.PrintWords
namespace Go.Proofs.YtapbbmicfkbafaaGreatW.PrintLast
section
variable {ops : Array Oper} {a : Act} {o og : Oper} {g : Nat} {t : Tmp} {u : Bool}
end
end Go.Proofs.YtapbbmicfkbafaaGreatW.PrintLast
