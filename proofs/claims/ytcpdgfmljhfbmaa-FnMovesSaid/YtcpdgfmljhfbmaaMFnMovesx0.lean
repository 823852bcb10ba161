/- Functions of the program as Lean functions, each with the proof that its call comes to just that: laid for this claim by this session's own program. -/
import Derived.Test.YtcpdgfmljhfbmaaProg
import Derived.Below
import Derived.Deep.Draws
import Derived.Deep.AppendLies
import Derived.Maps.AppendAt
import Derived.OwnWalk
import Derived.Laws.BytesArg
import Derived.Laws.MakeOwn
import Derived.Laws.OwnMore
import Derived.Deep.OwnRows
import Derived.Tactics
import Derived.Lib.ConvBytes
import Derived.Laws.Slices
import Derived.WalkKit
import Derived.KernelRfl
import Derived.RowKit3
import Derived.Deep.LoopGhost
import Derived.Deep.QuietTactic
import Derived.BigQuiet
import Derived.WideLaws
import Derived.Deep.DeepCutAuto
import Derived.Deep.CutBlock
import Derived.Deep.RegionHeld3
import Derived.Laws.Rows
import Derived.Lib.AppendStr
import Derived.ArgAppend
import Derived.Laws.IdiomCopy
import Derived.OrdersHeld
import Derived.Laws.BitsLemmas
import Derived.RowKit
import Derived.BigRegion
import Derived.ChangeAlike
import Derived.Shelf.SlIterI.Sorted
import Derived.Shelf.SortM.Plain
import Derived.Shelf.SortM.SortNone
import Derived.Ground.GgzProg
import Derived.Ground.SlgmProg
import Derived.Lib.OwnBridge
import Derived.Test.YtcpdgfmljhfbmaaWWords
import Derived.Test.YtcpdgfmljhfbmaaWLast
import Derived.Test.YtcpdgfmljhfbmaaWTab
import Derived.Test.YtcpdgfmljhfbmaaWFour
import Derived.Test.YtcpdgfmljhfbmaaWQPut
import Derived.Test.YtcpdgfmljhfbmaaWApart
import Derived.Test.YtcpdgfmljhfbmaaWArr
import Derived.Test.YtcpdgfmljhfbmaaWZeros
import Derived.Test.YtcpdgfmljhfbmaaWFoot
import Derived.Test.YtcpdgfmljhfbmaaWKept
import Derived.Test.YtcpdgfmljhfbmaaWShare
import Derived.Test.YtcpdgfmljhfbmaaWN
import Derived.Test.YtcpdgfmljhfbmaaWFootNe
import Derived.Test.YtcpdgfmljhfbmaaWAt
import Derived.Test.YtcpdgfmljhfbmaaWEqStruct
import Derived.Test.YtcpdgfmljhfbmaaWRepsOne
import Derived.Test.YtcpdgfmljhfbmaaWInv
import Derived.Test.YtcpdgfmljhfbmaaWInvWords
import Derived.Test.YtcpdgfmljhfbmaaWGuard
import Derived.Test.YtcpdgfmljhfbmaaWNEv
import Derived.Test.YtcpdgfmljhfbmaaWMore
namespace Go.Proofs.Ytcpdgfmljhfbmaa.MFnMoves
open Go.RowKit Go.Proofs.YtcpdgfmljhfbmaaW.PrintWords Go.Proofs.YtcpdgfmljhfbmaaW.PrintLast Go.Proofs.YtcpdgfmljhfbmaaW.PrintMore
attribute [local go_sem] max2_int min2_int max_two min_two max_three min_three max_four min_four   -- for this text's walks alone
set_option linter.unusedVariables false
set_option linter.unusedSimpArgs false



def errW : Option Int → Value
 | none => .nilIface
 | some c => .iface 0 (.int .i64 c)
theorem errW_none : errW none = .nilIface := rfl
theorem errW_some (c : Int) : errW (some c) = .iface 0 (.int .i64 c) := rfl

theorem info3 : (Try.prog.info? 3).map (fun i => (i.zero, i.size, i.bytes)) = some (some (.int .i64 0), 1, 8) := by kernel_rfl
-- the values' own types

theorem lenEq {P : Program} {f : Nat} {A : Option Addr} {m m' c : Nat} {rest : List Value} {w : World} {Q : Ending → World → Prop} (h : m = m') (hc : Calls P f ((Value.slice A m c :: rest).toArray) w Q) : Calls P f ((Value.slice A m' c :: rest).toArray) w Q := h ▸ hc
end Go.Proofs.Ytcpdgfmljhfbmaa.MFnMoves
