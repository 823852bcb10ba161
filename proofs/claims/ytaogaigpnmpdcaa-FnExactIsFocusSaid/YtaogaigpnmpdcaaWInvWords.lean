
import Derived.Test.YtaogaigpnmpdcaaWInv
import Derived.Test.YtaogaigpnmpdcaaWFootNe
namespace Go.Proofs.YtaogaigpnmpdcaaW.PrintWords
open Go.RowKit
end Go.Proofs.YtaogaigpnmpdcaaW.PrintWords
namespace Go.Proofs.YtaogaigpnmpdcaaW.PrintLast
section
variable {ops : Array Oper} {a : Act} {o og : Oper} {g : Nat} {t : Tmp} {u : Bool}
end
end Go.Proofs.YtaogaigpnmpdcaaW.PrintLast
