-- Written for this claim by this session's own program out of the translation.
import Derived.Test.YtdioconinnpmmaaDoorProg
import Derived.Below
import Derived.Deep.Draws
import Derived.Deep.AppendLies
import Derived.Maps.AppendAt
import Derived.OwnWalk
import Derived.Laws.BytesArg
import Derived.Laws.MakeOwn
import Derived.Laws.OwnMore
import Derived.Deep.OwnRows
import Derived.Tactics
import Derived.Lib.ConvBytes
import Derived.Laws.Slices
import Derived.WalkKit
import Derived.KernelRfl
import Derived.RowKit3
import Derived.Deep.LoopGhost
import Derived.Deep.QuietTactic
import Derived.BigQuiet
import Derived.WideLaws
import Derived.Deep.DeepCutAuto
import Derived.Deep.CutBlock
import Derived.Deep.RegionHeld3
import Derived.Laws.Rows
import Derived.Lib.AppendStr
import Derived.ArgAppend
import Derived.Laws.IdiomCopy
import Derived.OrdersHeld
import Derived.Laws.BitsLemmas
import Derived.RowKit
import Derived.StillTailTactics
import Derived.Test.YtdioconinnpmmaaDoorLaneParseRolls
import Derived.Test.YtdioconinnpmmaaDoorWWords
import Derived.Test.YtdioconinnpmmaaDoorWLast
import Derived.Test.YtdioconinnpmmaaDoorWTab
import Derived.Test.YtdioconinnpmmaaDoorWFour
import Derived.Test.YtdioconinnpmmaaDoorWQPut
import Derived.Test.YtdioconinnpmmaaDoorWApart
import Derived.Test.YtdioconinnpmmaaDoorWArr
import Derived.Test.YtdioconinnpmmaaDoorWZeros
import Derived.Test.YtdioconinnpmmaaDoorWFoot
import Derived.Test.YtdioconinnpmmaaDoorWKept
import Derived.Test.YtdioconinnpmmaaDoorWShare
import Derived.Test.YtdioconinnpmmaaDoorWN
import Derived.Test.YtdioconinnpmmaaDoorWFootNe
import Derived.Test.YtdioconinnpmmaaDoorWAt
import Derived.Test.YtdioconinnpmmaaDoorWEqStruct
import Derived.Test.YtdioconinnpmmaaDoorWRepsOne
import Derived.Test.YtdioconinnpmmaaDoorWInv
import Derived.Test.YtdioconinnpmmaaDoorWInvWords
import Derived.Test.YtdioconinnpmmaaDoorWGuard
import Derived.Test.YtdioconinnpmmaaDoorWNEv
import Derived.Test.YtdioconinnpmmaaDoorWMore
namespace Go.Proofs.YtdioconinnpmmaaDoor.MFnExactParseRolls
open Go.RowKit Go.Proofs.YtdioconinnpmmaaDoorW.PrintWords Go.Proofs.YtdioconinnpmmaaDoorW.PrintLast Go.Proofs.YtdioconinnpmmaaDoorW.PrintMore
attribute [local go_sem] max2_int min2_int max_two min_two max_three min_three max_four min_four   -- for this text's walks alone
set_option linter.unusedVariables false
set_option linter.unusedSimpArgs false



def errW : Option Int → Value
  | none => .nilIface
  | some c => .iface 0 (.int .i64 c)
theorem errW_none : errW none = .nilIface := rfl
theorem errW_some (c : Int) : errW (some c) = .iface 0 (.int .i64 c) := rfl

theorem info3 : (Tryd.prog.info? 3).map (fun i => (i.zero, i.size, i.bytes)) = some (some (.int .i64 0), 1, 8) := by kernel_rfl
theorem info5 : (Tryd.prog.info? 5).map (fun i => (i.zero, i.size, i.bytes)) = some (some (.int .u8 0), 1, 1) := by kernel_rfl
-- the values' own types

end Go.Proofs.YtdioconinnpmmaaDoor.MFnExactParseRolls
