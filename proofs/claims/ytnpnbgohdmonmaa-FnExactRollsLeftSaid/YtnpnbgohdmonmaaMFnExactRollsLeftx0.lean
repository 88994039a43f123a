-- Written for this claim by this session's own program out of the translation.
import Derived.Test.YtnpnbgohdmonmaaProg
import Derived.Below
import Derived.Deep.Draws
import Derived.Deep.AppendLies
import Derived.Maps.AppendAt
import Derived.OwnWalk
import Derived.Laws.BytesArg
import Derived.Laws.MakeOwn
import Derived.Laws.OwnMore
import Derived.Deep.OwnRows
import Derived.Tactics
import Derived.Lib.ConvBytes
import Derived.Laws.Slices
import Derived.WalkKit
import Derived.KernelRfl
import Derived.RowKit3
import Derived.Deep.LoopGhost
import Derived.Deep.QuietTactic
import Derived.BigQuiet
import Derived.WideLaws
import Derived.Deep.DeepCutAuto
import Derived.Deep.CutBlock
import Derived.Deep.RegionHeld3
import Derived.Laws.Rows
import Derived.Lib.AppendStr
import Derived.ArgAppend
import Derived.Laws.IdiomCopy
import Derived.OrdersHeld
import Derived.Laws.BitsLemmas
import Derived.RowKit
import Derived.StillTailTactics
import Derived.Test.YtnpnbgohdmonmaaLaneRollsLeft
import Derived.Test.YtnpnbgohdmonmaaWWords
import Derived.Test.YtnpnbgohdmonmaaWLast
import Derived.Test.YtnpnbgohdmonmaaWTab
import Derived.Test.YtnpnbgohdmonmaaWFour
import Derived.Test.YtnpnbgohdmonmaaWQPut
import Derived.Test.YtnpnbgohdmonmaaWApart
import Derived.Test.YtnpnbgohdmonmaaWArr
import Derived.Test.YtnpnbgohdmonmaaWZeros
import Derived.Test.YtnpnbgohdmonmaaWFoot
import Derived.Test.YtnpnbgohdmonmaaWKept
import Derived.Test.YtnpnbgohdmonmaaWShare
import Derived.Test.YtnpnbgohdmonmaaWN
import Derived.Test.YtnpnbgohdmonmaaWFootNe
import Derived.Test.YtnpnbgohdmonmaaWAt
import Derived.Test.YtnpnbgohdmonmaaWEqStruct
import Derived.Test.YtnpnbgohdmonmaaWRepsOne
import Derived.Test.YtnpnbgohdmonmaaWInv
import Derived.Test.YtnpnbgohdmonmaaWInvWords
import Derived.Test.YtnpnbgohdmonmaaWGuard
import Derived.Test.YtnpnbgohdmonmaaWNEv
import Derived.Test.YtnpnbgohdmonmaaWMore
namespace Go.Proofs.Ytnpnbgohdmonmaa.MFnExactRollsLeft
open Go.RowKit Go.Proofs.YtnpnbgohdmonmaaW.PrintWords Go.Proofs.YtnpnbgohdmonmaaW.PrintLast Go.Proofs.YtnpnbgohdmonmaaW.PrintMore
attribute [local go_sem] max2_int min2_int max_two min_two max_three min_three max_four min_four   -- for this text's walks alone
set_option linter.unusedVariables false
set_option linter.unusedSimpArgs false



def errW : Option Int → Value
  | none => .nilIface
  | some c => .iface 0 (.int .i64 c)
theorem errW_none : errW none = .nilIface := rfl
theorem errW_some (c : Int) : errW (some c) = .iface 0 (.int .i64 c) := rfl

theorem info3 : (Try.prog.info? 3).map (fun i => (i.zero, i.size, i.bytes)) = some (some (.int .i64 0), 1, 8) := by kernel_rfl
-- the values' own types

end Go.Proofs.Ytnpnbgohdmonmaa.MFnExactRollsLeft
