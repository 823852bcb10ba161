
import Derived.Test.YtapbbmicfkbafaaGreatWTab
namespace Go.Proofs.YtapbbmicfkbafaaGreatW.PrintLast
section
variable {P : Program} {ops : Array Oper} {Q : Exit → Act → World → Prop} {md : Region.Mode} {S : World → Prop} {ds : List Nat} {T : Bool × List (List Nat × List Nat)}
end
end Go.Proofs.YtapbbmicfkbafaaGreatW.PrintLast
