/- Functions of the program as Lean functions, each with the proof that its call comes to just that: laid for this claim by this session's own program. -/
import Derived.Test.YtaogaigpnmpdcaaProg
import Derived.Below
import Derived.Deep.Draws
import Derived.Deep.AppendLies
import Derived.Maps.AppendAt
import Derived.OwnWalk
import Derived.Laws.BytesArg
import Derived.Laws.MakeOwn
import Derived.Laws.OwnMore
import Derived.Deep.OwnRows
import Derived.Tactics
import Derived.Lib.ConvBytes
import Derived.Laws.Slices
import Derived.WalkKit
import Derived.KernelRfl
import Derived.RowKit3
import Derived.Deep.LoopGhost
import Derived.Deep.QuietTactic
import Derived.BigQuiet
import Derived.WideLaws
import Derived.Deep.DeepCutAuto
import Derived.Deep.CutBlock
import Derived.Deep.RegionHeld3
import Derived.Laws.Rows
import Derived.Lib.AppendStr
import Derived.ArgAppend
import Derived.Laws.IdiomCopy
import Derived.OrdersHeld
import Derived.Laws.BitsLemmas
import Derived.RowKit
import Derived.BigRegion
import Derived.ChangeAlike
import Derived.Test.YtaogaigpnmpdcaaFoW
import Derived.Test.YtaogaigpnmpdcaaWWords
import Derived.Test.YtaogaigpnmpdcaaWLast
import Derived.Test.YtaogaigpnmpdcaaWTab
import Derived.Test.YtaogaigpnmpdcaaWFour
import Derived.Test.YtaogaigpnmpdcaaWQPut
import Derived.Test.YtaogaigpnmpdcaaWApart
import Derived.Test.YtaogaigpnmpdcaaWArr
import Derived.Test.YtaogaigpnmpdcaaWZeros
import Derived.Test.YtaogaigpnmpdcaaWFoot
import Derived.Test.YtaogaigpnmpdcaaWKept
import Derived.Test.YtaogaigpnmpdcaaWShare
import Derived.Test.YtaogaigpnmpdcaaWN
import Derived.Test.YtaogaigpnmpdcaaWFootNe
import Derived.Test.YtaogaigpnmpdcaaWAt
import Derived.Test.YtaogaigpnmpdcaaWEqStruct
import Derived.Test.YtaogaigpnmpdcaaWRepsOne
import Derived.Test.YtaogaigpnmpdcaaWInv
import Derived.Test.YtaogaigpnmpdcaaWInvWords
import Derived.Test.YtaogaigpnmpdcaaWGuard
import Derived.Test.YtaogaigpnmpdcaaWNEv
import Derived.Test.YtaogaigpnmpdcaaWMore
namespace Go.Proofs.Ytaogaigpnmpdcaa.MFnExactFocusAt
open Go.RowKit Go.Proofs.YtaogaigpnmpdcaaW.PrintWords Go.Proofs.YtaogaigpnmpdcaaW.PrintLast Go.Proofs.YtaogaigpnmpdcaaW.PrintMore
attribute [local go_sem] max2_int min2_int max_two min_two max_three min_three max_four min_four   -- for this text's walks alone
set_option linter.unusedVariables false
set_option linter.unusedSimpArgs false



def errW : Option Int → Value
 | none => .nilIface
 | some c => .iface 0 (.int .i64 c)
theorem errW_none : errW none = .nilIface := rfl
theorem errW_some (c : Int) : errW (some c) = .iface 0 (.int .i64 c) := rfl

theorem info3 : (Try.prog.info? 3).map (fun i => (i.zero, i.size, i.bytes)) = some (some (.int .i64 0), 1, 8) := by kernel_rfl
theorem info4 : (Try.prog.info? 4).map (fun i => (i.zero, i.size, i.bytes)) = some (some (.bool false), 1, 1) := by kernel_rfl
-- the values' own types

end Go.Proofs.Ytaogaigpnmpdcaa.MFnExactFocusAt
