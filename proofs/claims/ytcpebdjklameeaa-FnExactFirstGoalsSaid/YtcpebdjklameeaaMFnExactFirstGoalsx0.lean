-- Written for this claim by this session's own program out of the translation.
import Derived.Test.YtcpebdjklameeaaProg
import Derived.Below
import Derived.Deep.Draws
import Derived.Deep.AppendLies
import Derived.Maps.AppendAt
import Derived.OwnWalk
import Derived.Laws.BytesArg
import Derived.Laws.MakeOwn
import Derived.Laws.OwnMore
import Derived.Deep.OwnRows
import Derived.Tactics
import Derived.Lib.ConvBytes
import Derived.Laws.Slices
import Derived.WalkKit
import Derived.KernelRfl
import Derived.RowKit3
import Derived.Deep.LoopGhost
import Derived.Deep.QuietTactic
import Derived.BigQuiet
import Derived.WideLaws
import Derived.Deep.DeepCutAuto
import Derived.Deep.CutBlock
import Derived.Deep.RegionHeld3
import Derived.Laws.Rows
import Derived.Lib.AppendStr
import Derived.ArgAppend
import Derived.Laws.IdiomCopy
import Derived.OrdersHeld
import Derived.Laws.BitsLemmas
import Derived.RowKit
import Derived.Test.YtcpebdjklameeaaGoalFirst
import Derived.Test.YtcpebdjklameeaaWWords
import Derived.Test.YtcpebdjklameeaaWLast
import Derived.Test.YtcpebdjklameeaaWTab
import Derived.Test.YtcpebdjklameeaaWFour
import Derived.Test.YtcpebdjklameeaaWQPut
import Derived.Test.YtcpebdjklameeaaWApart
import Derived.Test.YtcpebdjklameeaaWArr
import Derived.Test.YtcpebdjklameeaaWZeros
import Derived.Test.YtcpebdjklameeaaWFoot
import Derived.Test.YtcpebdjklameeaaWKept
import Derived.Test.YtcpebdjklameeaaWShare
import Derived.Test.YtcpebdjklameeaaWN
import Derived.Test.YtcpebdjklameeaaWFootNe
import Derived.Test.YtcpebdjklameeaaWAt
import Derived.Test.YtcpebdjklameeaaWEqStruct
import Derived.Test.YtcpebdjklameeaaWRepsOne
import Derived.Test.YtcpebdjklameeaaWInv
import Derived.Test.YtcpebdjklameeaaWInvWords
import Derived.Test.YtcpebdjklameeaaWGuard
import Derived.Test.YtcpebdjklameeaaWNEv
import Derived.Test.YtcpebdjklameeaaWMore
namespace Go.Proofs.Ytcpebdjklameeaa.MFnExactFirstGoals
open Go.RowKit Go.Proofs.YtcpebdjklameeaaW.PrintWords Go.Proofs.YtcpebdjklameeaaW.PrintLast Go.Proofs.YtcpebdjklameeaaW.PrintMore
attribute [local go_sem] max2_int min2_int max_two min_two max_three min_three max_four min_four   -- for this text's walks alone
set_option linter.unusedVariables false
set_option linter.unusedSimpArgs false



def errW : Option Int → Value
  | none => .nilIface
  | some c => .iface 0 (.int .i64 c)
theorem errW_none : errW none = .nilIface := rfl
theorem errW_some (c : Int) : errW (some c) = .iface 0 (.int .i64 c) := rfl

theorem info3 : (Try.prog.info? 3).map (fun i => (i.zero, i.size, i.bytes)) = some (some (.int .i64 0), 1, 8) := by kernel_rfl
-- the values' own types

end Go.Proofs.Ytcpebdjklameeaa.MFnExactFirstGoals
