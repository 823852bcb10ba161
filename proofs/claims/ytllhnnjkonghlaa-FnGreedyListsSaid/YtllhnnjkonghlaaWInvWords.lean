
import Derived.Test.YtllhnnjkonghlaaWInv
import Derived.Test.YtllhnnjkonghlaaWFootNe
namespace Go.Proofs.YtllhnnjkonghlaaW.PrintWords
open Go.RowKit
end Go.Proofs.YtllhnnjkonghlaaW.PrintWords
namespace Go.Proofs.YtllhnnjkonghlaaW.PrintLast
section
variable {ops : Array Oper} {a : Act} {o og : Oper} {g : Nat} {t : Tmp} {u : Bool}
end
end Go.Proofs.YtllhnnjkonghlaaW.PrintLast
