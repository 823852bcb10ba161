
import Derived.Test.YtpfakdhfffehaaaWInv
import Derived.Test.YtpfakdhfffehaaaWFootNe
namespace Go.Proofs.YtpfakdhfffehaaaW.PrintWords
open Go.RowKit
end Go.Proofs.YtpfakdhfffehaaaW.PrintWords
namespace Go.Proofs.YtpfakdhfffehaaaW.PrintLast
section
variable {ops : Array Oper} {a : Act} {o og : Oper} {g : Nat} {t : Tmp} {u : Bool}
end
end Go.Proofs.YtpfakdhfffehaaaW.PrintLast
