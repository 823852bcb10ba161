
import Derived.Test.YtedijkelbdpcdaaWInv
import Derived.Test.YtedijkelbdpcdaaWFootNe
namespace Go.Proofs.YtedijkelbdpcdaaW.PrintWords
open Go.RowKit
end Go.Proofs.YtedijkelbdpcdaaW.PrintWords
namespace Go.Proofs.YtedijkelbdpcdaaW.PrintLast
section
variable {ops : Array Oper} {a : Act} {o og : Oper} {g : Nat} {t : Tmp} {u : Bool}
end
end Go.Proofs.YtedijkelbdpcdaaW.PrintLast
