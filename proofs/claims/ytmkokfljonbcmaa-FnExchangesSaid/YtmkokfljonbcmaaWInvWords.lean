
import Derived.Test.YtmkokfljonbcmaaWInv
import Derived.Test.YtmkokfljonbcmaaWFootNe
namespace Go.Proofs.YtmkokfljonbcmaaW.PrintWords
open Go.RowKit
end Go.Proofs.YtmkokfljonbcmaaW.PrintWords
namespace Go.Proofs.YtmkokfljonbcmaaW.PrintLast
section
variable {ops : Array Oper} {a : Act} {o og : Oper} {g : Nat} {t : Tmp} {u : Bool}
end
end Go.Proofs.YtmkokfljonbcmaaW.PrintLast
