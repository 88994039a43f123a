-- Written for this claim by this session's own program out of the translation.
import Derived.Test.YtogcikjkfobjiaaDoorProg
import Derived.Below
import Derived.Deep.Draws
import Derived.Deep.AppendLies
import Derived.Maps.AppendAt
import Derived.OwnWalk
import Derived.Laws.BytesArg
import Derived.Laws.MakeOwn
import Derived.Laws.OwnMore
import Derived.Deep.OwnRows
import Derived.Tactics
import Derived.Lib.ConvBytes
import Derived.Laws.Slices
import Derived.WalkKit
import Derived.KernelRfl
import Derived.RowKit3
import Derived.Deep.LoopGhost
import Derived.Deep.QuietTactic
import Derived.BigQuiet
import Derived.WideLaws
import Derived.Deep.DeepCutAuto
import Derived.Deep.CutBlock
import Derived.Deep.RegionHeld3
import Derived.Laws.Rows
import Derived.Lib.AppendStr
import Derived.ArgAppend
import Derived.Laws.IdiomCopy
import Derived.OrdersHeld
import Derived.Laws.BitsLemmas
import Derived.RowKit
import Derived.Test.YtogcikjkfobjiaaDoorBrkFirst
import Derived.Test.YtogcikjkfobjiaaDoorShelf
import Derived.Test.YtogcikjkfobjiaaDoorWWords
import Derived.Test.YtogcikjkfobjiaaDoorWLast
import Derived.Test.YtogcikjkfobjiaaDoorWTab
import Derived.Test.YtogcikjkfobjiaaDoorWFour
import Derived.Test.YtogcikjkfobjiaaDoorWQPut
import Derived.Test.YtogcikjkfobjiaaDoorWApart
import Derived.Test.YtogcikjkfobjiaaDoorWArr
import Derived.Test.YtogcikjkfobjiaaDoorWZeros
import Derived.Test.YtogcikjkfobjiaaDoorWFoot
import Derived.Test.YtogcikjkfobjiaaDoorWKept
import Derived.Test.YtogcikjkfobjiaaDoorWShare
import Derived.Test.YtogcikjkfobjiaaDoorWN
import Derived.Test.YtogcikjkfobjiaaDoorWFootNe
import Derived.Test.YtogcikjkfobjiaaDoorWAt
import Derived.Test.YtogcikjkfobjiaaDoorWEqStruct
import Derived.Test.YtogcikjkfobjiaaDoorWRepsOne
import Derived.Test.YtogcikjkfobjiaaDoorWInv
import Derived.Test.YtogcikjkfobjiaaDoorWInvWords
import Derived.Test.YtogcikjkfobjiaaDoorWGuard
import Derived.Test.YtogcikjkfobjiaaDoorWNEv
import Derived.Test.YtogcikjkfobjiaaDoorWMore
namespace Go.Proofs.YtogcikjkfobjiaaDoor.MFnExactFirstWithPoints
open Go.RowKit Go.Proofs.YtogcikjkfobjiaaDoorW.PrintWords Go.Proofs.YtogcikjkfobjiaaDoorW.PrintLast Go.Proofs.YtogcikjkfobjiaaDoorW.PrintMore
attribute [local go_sem] max2_int min2_int max_two min_two max_three min_three max_four min_four   -- for this text's walks alone
set_option linter.unusedVariables false
set_option linter.unusedSimpArgs false



def errW : Option Int → Value
  | none => .nilIface
  | some c => .iface 0 (.int .i64 c)
theorem errW_none : errW none = .nilIface := rfl
theorem errW_some (c : Int) : errW (some c) = .iface 0 (.int .i64 c) := rfl

theorem info3 : (Tryd.prog.info? 3).map (fun i => (i.zero, i.size, i.bytes)) = some (some (.int .i64 0), 1, 8) := by kernel_rfl
theorem info5 : (Tryd.prog.info? 5).map (fun i => (i.zero, i.size, i.bytes)) = some (some (.int .u8 0), 1, 1) := by kernel_rfl
-- the values' own types

end Go.Proofs.YtogcikjkfobjiaaDoor.MFnExactFirstWithPoints
