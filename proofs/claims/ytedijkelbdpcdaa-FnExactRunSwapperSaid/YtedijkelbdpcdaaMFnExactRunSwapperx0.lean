import Derived.Test.YtedijkelbdpcdaaProg
import Derived.Below
import Derived.Deep.Draws
import Derived.Deep.AppendLies
import Derived.Maps.AppendAt
import Derived.OwnWalk
import Derived.Laws.BytesArg
import Derived.Laws.MakeOwn
import Derived.Laws.OwnMore
import Derived.Deep.OwnRows
import Derived.Tactics
import Derived.Lib.ConvBytes
import Derived.Laws.Slices
import Derived.WalkKit
import Derived.KernelRfl
import Derived.RowKit3
import Derived.Deep.LoopGhost
import Derived.Deep.QuietTactic
import Derived.BigQuiet
import Derived.WideLaws
import Derived.Deep.DeepCutAuto
import Derived.Deep.CutBlock
import Derived.Deep.RegionHeld3
import Derived.Laws.Rows
import Derived.Lib.AppendStr
import Derived.ArgAppend
import Derived.Laws.IdiomCopy
import Derived.OrdersHeld
import Derived.Laws.BitsLemmas
import Derived.RowKit
import Derived.BigRegion
import Derived.ChangeAlike
import Derived.Test.YtedijkelbdpcdaaFoW
import Derived.Test.YtedijkelbdpcdaaSwW
import Derived.Test.YtedijkelbdpcdaaWWords
import Derived.Test.YtedijkelbdpcdaaWLast
import Derived.Test.YtedijkelbdpcdaaWTab
import Derived.Test.YtedijkelbdpcdaaWFour
import Derived.Test.YtedijkelbdpcdaaWQPut
import Derived.Test.YtedijkelbdpcdaaWApart
import Derived.Test.YtedijkelbdpcdaaWArr
import Derived.Test.YtedijkelbdpcdaaWZeros
import Derived.Test.YtedijkelbdpcdaaWFoot
import Derived.Test.YtedijkelbdpcdaaWKept
import Derived.Test.YtedijkelbdpcdaaWShare
import Derived.Test.YtedijkelbdpcdaaWN
import Derived.Test.YtedijkelbdpcdaaWFootNe
import Derived.Test.YtedijkelbdpcdaaWAt
import Derived.Test.YtedijkelbdpcdaaWEqStruct
import Derived.Test.YtedijkelbdpcdaaWRepsOne
import Derived.Test.YtedijkelbdpcdaaWInv
import Derived.Test.YtedijkelbdpcdaaWInvWords
import Derived.Test.YtedijkelbdpcdaaWGuard
import Derived.Test.YtedijkelbdpcdaaWNEv
import Derived.Test.YtedijkelbdpcdaaWMore
namespace Go.Proofs.Ytedijkelbdpcdaa.MFnExactRunSwapper
open Go.RowKit Go.Proofs.YtedijkelbdpcdaaW.PrintWords Go.Proofs.YtedijkelbdpcdaaW.PrintLast Go.Proofs.YtedijkelbdpcdaaW.PrintMore
attribute [local go_sem] max2_int min2_int max_two min_two max_three min_three max_four min_four   
set_option linter.unusedVariables false
set_option linter.unusedSimpArgs false
def errW : Option Int → Value
 | none => .nilIface
 | some c => .iface 0 (.int .i64 c)
theorem errW_none : errW none = .nilIface := rfl
theorem errW_some (c : Int) : errW (some c) = .iface 0 (.int .i64 c) := rfl
theorem info3 : (Try.prog.info? 3).map (fun i => (i.zero, i.size, i.bytes)) = some (some (.int .i64 0), 1, 8) := by kernel_rfl
theorem info4 : (Try.prog.info? 4).map (fun i => (i.zero, i.size, i.bytes)) = some (some (.bool false), 1, 1) := by kernel_rfl
theorem Z0 : type_of% @List.setIfInBounds_toArray := @List.setIfInBounds_toArray
theorem Z1 : type_of% @List.set_cons_zero := @List.set_cons_zero
theorem Z2 : type_of% @List.set_cons_succ := @List.set_cons_succ
theorem Z3 : type_of% @pw_below_drewN := @pw_below_drewN
theorem Z4 : type_of% @below_drew1 := @below_drew1
theorem Z5 : type_of% @below_alloc := @below_alloc
theorem Z6 : type_of% @below_set := @below_set
theorem Z7 : type_of% @below_size := @below_size
theorem Z8 : type_of% @below_step := @below_step
theorem Z9 : type_of% @Kd.R_alloc := @Kd.R_alloc
theorem Z10 : type_of% @Kd.R_drewN := @Kd.R_drewN
theorem Z11 : type_of% @Kd.R_drew := @Kd.R_drew
theorem Z12 : type_of% @Kd.R_mono := @Kd.R_mono
theorem Z13 : type_of% @Kd.R_far := @Kd.R_far
theorem Z14 : type_of% @Kd.R_below := @Kd.R_below
theorem Z15 : type_of% @Kd.R_types := @Kd.R_types
theorem Z16 : type_of% @Kd.R_told := @Kd.R_told
theorem Z17 : type_of% @Kd.R_old := @Kd.R_old
theorem Z18 : type_of% @Kd.R_lt := @Kd.R_lt
theorem Z19 : type_of% @Kd.R_slice := @Kd.R_slice
theorem Z20 : type_of% @Kd.C_alloc := @Kd.C_alloc
theorem Z21 : type_of% @Kd.C_drewN := @Kd.C_drewN
theorem Z22 : type_of% @Kd.C_drew := @Kd.C_drew
theorem Z23 : type_of% @Kd.C_below := @Kd.C_below
theorem Z24 : type_of% @blk_cell := @blk_cell
theorem Z25 : type_of% @blk_frozen := @blk_frozen
theorem Z26 : type_of% @blk_drewN := @blk_drewN
theorem Z27 : type_of% @blk_drew := @blk_drew
theorem Z28 : type_of% @blk_alloc := @blk_alloc
theorem Z29 : type_of% @blk_below := @blk_below
theorem Z30 : type_of% @blk_put := @blk_put
theorem Z31 : type_of% @of_decide_eq_true := @of_decide_eq_true
theorem Z32 : type_of% @List.length_drop := @List.length_drop
theorem Z33 : type_of% @List.length_take := @List.length_take
theorem Z34 : type_of% @List.map_toArray := @List.map_toArray
theorem Z35 : type_of% @List.map_cons := @List.map_cons
theorem Z36 : type_of% @List.map_nil := @List.map_nil
theorem Z37 : type_of% @Option.bind_eq_some_iff := @Option.bind_eq_some_iff
theorem Z38 : type_of% @decide_eq_false := @decide_eq_false
theorem Z39 : type_of% @decide_eq_true := @decide_eq_true
end Go.Proofs.Ytedijkelbdpcdaa.MFnExactRunSwapper
