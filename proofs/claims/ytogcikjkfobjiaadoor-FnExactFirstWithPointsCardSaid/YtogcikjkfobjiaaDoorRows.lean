/-
  NARROWER THAN 'FOR EVERY INPUT', by the rows' own cells (each row's printed sentence says how): FnExactLeastBreak: laid · FnExactHighestBreak: laid · FnExactPointsLeft: laid · FnExactCanStillWin: laid · FnExactFoulsNeeded: laid · FnExactCountByPoints: laid · FnExactFirstWithPoints: laid · FnExactPotBall: laid · FnExactIsBreak: laid · FnExactFrameAfter: laid · FnExactPlayFrame: laid.
  DERIVED. THE GIVEN ROWS OF THIS SEAT. 11 by the template 'for every input the law returns true; each argument reads behind the call as it read before'; 0 by the template 'total and deterministic' (their statements: YtogcikjkfobjiaaDoorTotals.lean).
  GIVEN WITH THE SEED: the statements are not yours to turn. If you find one false, say at which input.
  Laid BY PROGRAM, IN A SANDBOX (cutbox-rows.mjs): the forced cells as the released guide's own fill.sh prints them over the translation 007362be6952e331… (all of the seat's roots in one cut). By AI agents, Wed Nov 11 2026. No macro, syntax, notation, axiom, sorry.
-/
import Derived.Test.YtogcikjkfobjiaaDoorChecked
import GoSem.PinnedTables
import GoSem.Claim
import GoSem.ClaimJoined
import GoSem.ClaimMapViews
import Derived.JoinedTies
import Derived.KernelRfl
namespace Go.Proofs.YtogcikjkfobjiaaDoor
/- THE CELL 'sum', in the pinned program and in every row, IS THE sha256 OF THE DUMP (.gsa) THAT YtogcikjkfobjiaaDoorProg.lean LOADS. Nothing in Lean hashes anything: it is a label: what it is worth is what the hold of that sum in a sandbox is worth. -/
noncomputable def Tryd.pinned : Pinned := { name := "ytogcikjkfobjiaadoor", sum := "007362be6952e33100091b6e2ccc0da543e195ca2719d7dcab3f219980d55517", checked := Tryd.checked }
namespace Rows
def none {H : Type} : Left H := { results := [], args := [] }

/- WHAT THE LISTED PACKAGE-LEVEL VARIABLES READ AS WHEN THE CALL BEGINS. Each datum BY PROGRAM (the guide's laid-datum.mjs) off the statement by which the dump's own 'gosem.cut.vars' lays the variable. In a bare row this is a premise. The card (YtogcikjkfobjiaaDoorCards.lean) ties it to the program's text. -/
def laid_math_bits_deBruijn32tab {H : Type} : DataW H := .agg [.lit (.int .u8 0), .lit (.int .u8 1), .lit (.int .u8 28), .lit (.int .u8 2), .lit (.int .u8 29), .lit (.int .u8 14), .lit (.int .u8 24), .lit (.int .u8 3), .lit (.int .u8 30), .lit (.int .u8 22), .lit (.int .u8 20), .lit (.int .u8 15), .lit (.int .u8 25), .lit (.int .u8 17), .lit (.int .u8 4), .lit (.int .u8 8), .lit (.int .u8 31), .lit (.int .u8 27), .lit (.int .u8 13), .lit (.int .u8 23), .lit (.int .u8 21), .lit (.int .u8 19), .lit (.int .u8 16), .lit (.int .u8 7), .lit (.int .u8 26), .lit (.int .u8 12), .lit (.int .u8 18), .lit (.int .u8 6), .lit (.int .u8 11), .lit (.int .u8 5), .lit (.int .u8 10), .lit (.int .u8 9)]
def laid_math_bits_deBruijn64tab {H : Type} : DataW H := .agg [.lit (.int .u8 0), .lit (.int .u8 1), .lit (.int .u8 56), .lit (.int .u8 2), .lit (.int .u8 57), .lit (.int .u8 49), .lit (.int .u8 28), .lit (.int .u8 3), .lit (.int .u8 61), .lit (.int .u8 58), .lit (.int .u8 42), .lit (.int .u8 50), .lit (.int .u8 38), .lit (.int .u8 29), .lit (.int .u8 17), .lit (.int .u8 4), .lit (.int .u8 62), .lit (.int .u8 47), .lit (.int .u8 59), .lit (.int .u8 36), .lit (.int .u8 45), .lit (.int .u8 43), .lit (.int .u8 51), .lit (.int .u8 22), .lit (.int .u8 53), .lit (.int .u8 39), .lit (.int .u8 33), .lit (.int .u8 30), .lit (.int .u8 24), .lit (.int .u8 18), .lit (.int .u8 12), .lit (.int .u8 5), .lit (.int .u8 63), .lit (.int .u8 55), .lit (.int .u8 48), .lit (.int .u8 27), .lit (.int .u8 60), .lit (.int .u8 41), .lit (.int .u8 37), .lit (.int .u8 16), .lit (.int .u8 46), .lit (.int .u8 35), .lit (.int .u8 44), .lit (.int .u8 21), .lit (.int .u8 52), .lit (.int .u8 32), .lit (.int .u8 23), .lit (.int .u8 11), .lit (.int .u8 54), .lit (.int .u8 26), .lit (.int .u8 40), .lit (.int .u8 15), .lit (.int .u8 34), .lit (.int .u8 20), .lit (.int .u8 31), .lit (.int .u8 10), .lit (.int .u8 25), .lit (.int .u8 14), .lit (.int .u8 19), .lit (.int .u8 9), .lit (.int .u8 13), .lit (.int .u8 8), .lit (.int .u8 7), .lit (.int .u8 6)]
def laid_internal_strconv_uint64pow10 {H : Type} : DataW H := .agg [.lit (.int .u64 1), .lit (.int .u64 10), .lit (.int .u64 100), .lit (.int .u64 1000), .lit (.int .u64 10000), .lit (.int .u64 100000), .lit (.int .u64 1000000), .lit (.int .u64 10000000), .lit (.int .u64 100000000), .lit (.int .u64 1000000000), .lit (.int .u64 10000000000), .lit (.int .u64 100000000000), .lit (.int .u64 1000000000000), .lit (.int .u64 10000000000000), .lit (.int .u64 100000000000000), .lit (.int .u64 1000000000000000), .lit (.int .u64 10000000000000000), .lit (.int .u64 100000000000000000), .lit (.int .u64 1000000000000000000), .lit (.int .u64 10000000000000000000)]
def laid_unicode_utf8_acceptRanges {H : Type} : DataW H := .agg [.agg [.lit (.int .u8 128), .lit (.int .u8 191)], .agg [.lit (.int .u8 160), .lit (.int .u8 191)], .agg [.lit (.int .u8 128), .lit (.int .u8 159)], .agg [.lit (.int .u8 144), .lit (.int .u8 191)], .agg [.lit (.int .u8 128), .lit (.int .u8 143)], .agg [.lit (.int .u8 0), .lit (.int .u8 0)], .agg [.lit (.int .u8 0), .lit (.int .u8 0)], .agg [.lit (.int .u8 0), .lit (.int .u8 0)], .agg [.lit (.int .u8 0), .lit (.int .u8 0)], .agg [.lit (.int .u8 0), .lit (.int .u8 0)], .agg [.lit (.int .u8 0), .lit (.int .u8 0)], .agg [.lit (.int .u8 0), .lit (.int .u8 0)], .agg [.lit (.int .u8 0), .lit (.int .u8 0)], .agg [.lit (.int .u8 0), .lit (.int .u8 0)], .agg [.lit (.int .u8 0), .lit (.int .u8 0)], .agg [.lit (.int .u8 0), .lit (.int .u8 0)]]
/-- One of Go's own tables, pinned by name: the form's constant. -/
def laid_unicode_utf8_first : DataW Unit := Go.Pinned.utf8First

/-- 'laws.FnExactLeastBreak': WHATEVER THE INPUT: true; the input reads as it did. -/
def fnExactLeastBreakSpec : ChangeSpec := { name := "fnExactLeastBreak", fn := fun _ => fun
  | [d] => { results := [.lit (.bool true)], args := [d] }
  | _ => none }
def fnExactLeastBreakRow : OpenClaim := { program := "ytogcikjkfobjiaadoor", sum := "007362be6952e33100091b6e2ccc0da543e195ca2719d7dcab3f219980d55517", func := "loop.example/g01368/laws.FnExactLeastBreak", spec := "fnExactLeastBreak", recurses := true, named := ["internal/strconv.uint64pow10", "math/bits.deBruijn32tab", "math/bits.deBruijn64tab"], plainKeys := false, apart := false, laid := [("math/bits.deBruijn32tab", laid_math_bits_deBruijn32tab), ("math/bits.deBruijn64tab", laid_math_bits_deBruijn64tab), ("internal/strconv.uint64pow10", laid_internal_strconv_uint64pow10)] }
def FnExactLeastBreakSaid : Prop := fnExactLeastBreakRow.holds Tryd.pinned (OpenSpec.ofChange fnExactLeastBreakSpec)

/-- ITS FALSE NEIGHBOUR: 'it returns false'. Refute it at one input. -/
def fnExactLeastBreakWrong : ChangeSpec := { name := "fnExactLeastBreak", fn := fun _ => fun
  | [d] => { results := [.lit (.bool false)], args := [d] }
  | _ => none }
def FnExactLeastBreakWrongFalsely : Prop := fnExactLeastBreakRow.holds Tryd.pinned (OpenSpec.ofChange fnExactLeastBreakWrong)

/-- 'laws.FnExactHighestBreak': WHATEVER THE INPUT: true; the input reads as it did. -/
def fnExactHighestBreakSpec : ChangeSpec := { name := "fnExactHighestBreak", fn := fun _ => fun
  | [d] => { results := [.lit (.bool true)], args := [d] }
  | _ => none }
def fnExactHighestBreakRow : OpenClaim := { program := "ytogcikjkfobjiaadoor", sum := "007362be6952e33100091b6e2ccc0da543e195ca2719d7dcab3f219980d55517", func := "loop.example/g01368/laws.FnExactHighestBreak", spec := "fnExactHighestBreak", recurses := true, named := ["internal/strconv.uint64pow10", "math/bits.deBruijn32tab", "math/bits.deBruijn64tab"], plainKeys := false, apart := false, laid := [("math/bits.deBruijn32tab", laid_math_bits_deBruijn32tab), ("math/bits.deBruijn64tab", laid_math_bits_deBruijn64tab), ("internal/strconv.uint64pow10", laid_internal_strconv_uint64pow10)] }
def FnExactHighestBreakSaid : Prop := fnExactHighestBreakRow.holds Tryd.pinned (OpenSpec.ofChange fnExactHighestBreakSpec)

/-- ITS FALSE NEIGHBOUR: 'it returns false'. Refute it at one input. -/
def fnExactHighestBreakWrong : ChangeSpec := { name := "fnExactHighestBreak", fn := fun _ => fun
  | [d] => { results := [.lit (.bool false)], args := [d] }
  | _ => none }
def FnExactHighestBreakWrongFalsely : Prop := fnExactHighestBreakRow.holds Tryd.pinned (OpenSpec.ofChange fnExactHighestBreakWrong)

/-- 'laws.FnExactPointsLeft': WHATEVER THE INPUT: true; the input reads as it did. -/
def fnExactPointsLeftSpec : ChangeSpec := { name := "fnExactPointsLeft", fn := fun _ => fun
  | [d] => { results := [.lit (.bool true)], args := [d] }
  | _ => none }
def fnExactPointsLeftRow : OpenClaim := { program := "ytogcikjkfobjiaadoor", sum := "007362be6952e33100091b6e2ccc0da543e195ca2719d7dcab3f219980d55517", func := "loop.example/g01368/laws.FnExactPointsLeft", spec := "fnExactPointsLeft", recurses := true, named := ["internal/strconv.uint64pow10", "math/bits.deBruijn32tab", "math/bits.deBruijn64tab"], plainKeys := false, apart := false, laid := [("math/bits.deBruijn32tab", laid_math_bits_deBruijn32tab), ("math/bits.deBruijn64tab", laid_math_bits_deBruijn64tab), ("internal/strconv.uint64pow10", laid_internal_strconv_uint64pow10)] }
def FnExactPointsLeftSaid : Prop := fnExactPointsLeftRow.holds Tryd.pinned (OpenSpec.ofChange fnExactPointsLeftSpec)

/-- ITS FALSE NEIGHBOUR: 'it returns false'. Refute it at one input. -/
def fnExactPointsLeftWrong : ChangeSpec := { name := "fnExactPointsLeft", fn := fun _ => fun
  | [d] => { results := [.lit (.bool false)], args := [d] }
  | _ => none }
def FnExactPointsLeftWrongFalsely : Prop := fnExactPointsLeftRow.holds Tryd.pinned (OpenSpec.ofChange fnExactPointsLeftWrong)

/-- 'laws.FnExactCanStillWin': WHATEVER THE INPUT: true; the input reads as it did. -/
def fnExactCanStillWinSpec : ChangeSpec := { name := "fnExactCanStillWin", fn := fun _ => fun
  | [d1, d2] => { results := [.lit (.bool true)], args := [d1, d2] }
  | _ => none }
def fnExactCanStillWinRow : OpenClaim := { program := "ytogcikjkfobjiaadoor", sum := "007362be6952e33100091b6e2ccc0da543e195ca2719d7dcab3f219980d55517", func := "loop.example/g01368/laws.FnExactCanStillWin", spec := "fnExactCanStillWin", recurses := true, named := ["internal/strconv.uint64pow10", "math/bits.deBruijn32tab", "math/bits.deBruijn64tab"], plainKeys := false, apart := false, laid := [("math/bits.deBruijn32tab", laid_math_bits_deBruijn32tab), ("math/bits.deBruijn64tab", laid_math_bits_deBruijn64tab), ("internal/strconv.uint64pow10", laid_internal_strconv_uint64pow10)] }
def FnExactCanStillWinSaid : Prop := fnExactCanStillWinRow.holds Tryd.pinned (OpenSpec.ofChange fnExactCanStillWinSpec)

/-- ITS FALSE NEIGHBOUR: 'it returns false'. Refute it at one input. -/
def fnExactCanStillWinWrong : ChangeSpec := { name := "fnExactCanStillWin", fn := fun _ => fun
  | [d1, d2] => { results := [.lit (.bool false)], args := [d1, d2] }
  | _ => none }
def FnExactCanStillWinWrongFalsely : Prop := fnExactCanStillWinRow.holds Tryd.pinned (OpenSpec.ofChange fnExactCanStillWinWrong)

/-- 'laws.FnExactFoulsNeeded': WHATEVER THE INPUT: true; the input reads as it did. -/
def fnExactFoulsNeededSpec : ChangeSpec := { name := "fnExactFoulsNeeded", fn := fun _ => fun
  | [d1, d2] => { results := [.lit (.bool true)], args := [d1, d2] }
  | _ => none }
def fnExactFoulsNeededRow : OpenClaim := { program := "ytogcikjkfobjiaadoor", sum := "007362be6952e33100091b6e2ccc0da543e195ca2719d7dcab3f219980d55517", func := "loop.example/g01368/laws.FnExactFoulsNeeded", spec := "fnExactFoulsNeeded", recurses := true, named := ["internal/strconv.uint64pow10", "math/bits.deBruijn32tab", "math/bits.deBruijn64tab"], plainKeys := false, apart := false, laid := [("math/bits.deBruijn32tab", laid_math_bits_deBruijn32tab), ("math/bits.deBruijn64tab", laid_math_bits_deBruijn64tab), ("internal/strconv.uint64pow10", laid_internal_strconv_uint64pow10)] }
def FnExactFoulsNeededSaid : Prop := fnExactFoulsNeededRow.holds Tryd.pinned (OpenSpec.ofChange fnExactFoulsNeededSpec)

/-- ITS FALSE NEIGHBOUR: 'it returns false'. Refute it at one input. -/
def fnExactFoulsNeededWrong : ChangeSpec := { name := "fnExactFoulsNeeded", fn := fun _ => fun
  | [d1, d2] => { results := [.lit (.bool false)], args := [d1, d2] }
  | _ => none }
def FnExactFoulsNeededWrongFalsely : Prop := fnExactFoulsNeededRow.holds Tryd.pinned (OpenSpec.ofChange fnExactFoulsNeededWrong)

/-- 'laws.FnExactCountByPoints': WHATEVER THE INPUT: true; the input reads as it did. -/
def fnExactCountByPointsSpec : ChangeSpec := { name := "fnExactCountByPoints", fn := fun _ => fun
  | [d1, d2] => { results := [.lit (.bool true)], args := [d1, d2] }
  | _ => none }
def fnExactCountByPointsRow : OpenClaim := { program := "ytogcikjkfobjiaadoor", sum := "007362be6952e33100091b6e2ccc0da543e195ca2719d7dcab3f219980d55517", func := "loop.example/g01368/laws.FnExactCountByPoints", spec := "fnExactCountByPoints", unfollowed := true, recurses := true, named := ["internal/strconv.uint64pow10", "math/bits.deBruijn32tab", "math/bits.deBruijn64tab"], plainKeys := false, apart := false, laid := [("math/bits.deBruijn32tab", laid_math_bits_deBruijn32tab), ("math/bits.deBruijn64tab", laid_math_bits_deBruijn64tab), ("internal/strconv.uint64pow10", laid_internal_strconv_uint64pow10)] }
def FnExactCountByPointsSaid : Prop := fnExactCountByPointsRow.holds Tryd.pinned (OpenSpec.ofChange fnExactCountByPointsSpec)

/-- ITS FALSE NEIGHBOUR: 'it returns false'. Refute it at one input. -/
def fnExactCountByPointsWrong : ChangeSpec := { name := "fnExactCountByPoints", fn := fun _ => fun
  | [d1, d2] => { results := [.lit (.bool false)], args := [d1, d2] }
  | _ => none }
def FnExactCountByPointsWrongFalsely : Prop := fnExactCountByPointsRow.holds Tryd.pinned (OpenSpec.ofChange fnExactCountByPointsWrong)

/-- 'laws.FnExactFirstWithPoints': WHATEVER THE INPUT: true; the input reads as it did. -/
def fnExactFirstWithPointsSpec : ChangeSpec := { name := "fnExactFirstWithPoints", fn := fun _ => fun
  | [d1, d2] => { results := [.lit (.bool true)], args := [d1, d2] }
  | _ => none }
def fnExactFirstWithPointsRow : OpenClaim := { program := "ytogcikjkfobjiaadoor", sum := "007362be6952e33100091b6e2ccc0da543e195ca2719d7dcab3f219980d55517", func := "loop.example/g01368/laws.FnExactFirstWithPoints", spec := "fnExactFirstWithPoints", unfollowed := true, recurses := true, named := ["internal/strconv.uint64pow10", "math/bits.deBruijn32tab", "math/bits.deBruijn64tab"], plainKeys := false, apart := false, laid := [("math/bits.deBruijn32tab", laid_math_bits_deBruijn32tab), ("math/bits.deBruijn64tab", laid_math_bits_deBruijn64tab), ("internal/strconv.uint64pow10", laid_internal_strconv_uint64pow10)] }
def FnExactFirstWithPointsSaid : Prop := fnExactFirstWithPointsRow.holds Tryd.pinned (OpenSpec.ofChange fnExactFirstWithPointsSpec)

/-- ITS FALSE NEIGHBOUR: 'it returns false'. Refute it at one input. -/
def fnExactFirstWithPointsWrong : ChangeSpec := { name := "fnExactFirstWithPoints", fn := fun _ => fun
  | [d1, d2] => { results := [.lit (.bool false)], args := [d1, d2] }
  | _ => none }
def FnExactFirstWithPointsWrongFalsely : Prop := fnExactFirstWithPointsRow.holds Tryd.pinned (OpenSpec.ofChange fnExactFirstWithPointsWrong)

/-- 'laws.FnExactPotBall': WHATEVER THE INPUT: true; the input reads as it did. -/
def fnExactPotBallSpec : ChangeSpec := { name := "fnExactPotBall", fn := fun _ => fun
  | [d1, d2] => { results := [.lit (.bool true)], args := [d1, d2] }
  | _ => none }
def fnExactPotBallRow : OpenClaim := { program := "ytogcikjkfobjiaadoor", sum := "007362be6952e33100091b6e2ccc0da543e195ca2719d7dcab3f219980d55517", func := "loop.example/g01368/laws.FnExactPotBall", spec := "fnExactPotBall", inPlace := ["internal/bytealg.IndexByteString", "internal/bytealg.IndexString"], recurses := true, named := ["internal/strconv.uint64pow10", "math/bits.deBruijn32tab", "math/bits.deBruijn64tab", "internal/bytealg.MaxLen"], plainKeys := false, apart := false, laid := [("math/bits.deBruijn32tab", laid_math_bits_deBruijn32tab), ("math/bits.deBruijn64tab", laid_math_bits_deBruijn64tab), ("internal/strconv.uint64pow10", laid_internal_strconv_uint64pow10)] }
def FnExactPotBallSaid : Prop := fnExactPotBallRow.holds Tryd.pinned (OpenSpec.ofChange fnExactPotBallSpec)

/-- ITS FALSE NEIGHBOUR: 'it returns false'. Refute it at one input. -/
def fnExactPotBallWrong : ChangeSpec := { name := "fnExactPotBall", fn := fun _ => fun
  | [d1, d2] => { results := [.lit (.bool false)], args := [d1, d2] }
  | _ => none }
def FnExactPotBallWrongFalsely : Prop := fnExactPotBallRow.holds Tryd.pinned (OpenSpec.ofChange fnExactPotBallWrong)

/-- 'laws.FnExactIsBreak': WHATEVER THE INPUT: true; the input reads as it did. -/
def fnExactIsBreakSpec : ChangeSpec := { name := "fnExactIsBreak", fn := fun _ => fun
  | [d1, d2] => { results := [.lit (.bool true)], args := [d1, d2] }
  | _ => none }
def fnExactIsBreakRow : OpenClaim := { program := "ytogcikjkfobjiaadoor", sum := "007362be6952e33100091b6e2ccc0da543e195ca2719d7dcab3f219980d55517", func := "loop.example/g01368/laws.FnExactIsBreak", spec := "fnExactIsBreak", inPlace := ["internal/bytealg.IndexByteString", "internal/bytealg.IndexString"], recurses := true, named := ["internal/strconv.uint64pow10", "math/bits.deBruijn32tab", "math/bits.deBruijn64tab", "internal/bytealg.MaxLen"], plainKeys := false, apart := false, laid := [("math/bits.deBruijn32tab", laid_math_bits_deBruijn32tab), ("math/bits.deBruijn64tab", laid_math_bits_deBruijn64tab), ("internal/strconv.uint64pow10", laid_internal_strconv_uint64pow10)] }
def FnExactIsBreakSaid : Prop := fnExactIsBreakRow.holds Tryd.pinned (OpenSpec.ofChange fnExactIsBreakSpec)

/-- ITS FALSE NEIGHBOUR: 'it returns false'. Refute it at one input. -/
def fnExactIsBreakWrong : ChangeSpec := { name := "fnExactIsBreak", fn := fun _ => fun
  | [d1, d2] => { results := [.lit (.bool false)], args := [d1, d2] }
  | _ => none }
def FnExactIsBreakWrongFalsely : Prop := fnExactIsBreakRow.holds Tryd.pinned (OpenSpec.ofChange fnExactIsBreakWrong)

/-- 'laws.FnExactFrameAfter': WHATEVER THE INPUT: true; the input reads as it did. -/
def fnExactFrameAfterSpec : ChangeSpec := { name := "fnExactFrameAfter", fn := fun _ => fun
  | [d1, d2] => { results := [.lit (.bool true)], args := [d1, d2] }
  | _ => none }
def fnExactFrameAfterRow : OpenClaim := { program := "ytogcikjkfobjiaadoor", sum := "007362be6952e33100091b6e2ccc0da543e195ca2719d7dcab3f219980d55517", func := "loop.example/g01368/laws.FnExactFrameAfter", spec := "fnExactFrameAfter", inPlace := ["internal/bytealg.IndexByteString", "internal/bytealg.IndexString"], recurses := true, named := ["internal/strconv.uint64pow10", "math/bits.deBruijn32tab", "math/bits.deBruijn64tab", "internal/bytealg.MaxLen"], plainKeys := false, apart := false, laid := [("math/bits.deBruijn32tab", laid_math_bits_deBruijn32tab), ("math/bits.deBruijn64tab", laid_math_bits_deBruijn64tab), ("internal/strconv.uint64pow10", laid_internal_strconv_uint64pow10)] }
def FnExactFrameAfterSaid : Prop := fnExactFrameAfterRow.holds Tryd.pinned (OpenSpec.ofChange fnExactFrameAfterSpec)

/-- ITS FALSE NEIGHBOUR: 'it returns false'. Refute it at one input. -/
def fnExactFrameAfterWrong : ChangeSpec := { name := "fnExactFrameAfter", fn := fun _ => fun
  | [d1, d2] => { results := [.lit (.bool false)], args := [d1, d2] }
  | _ => none }
def FnExactFrameAfterWrongFalsely : Prop := fnExactFrameAfterRow.holds Tryd.pinned (OpenSpec.ofChange fnExactFrameAfterWrong)

/-- 'laws.FnExactPlayFrame': WHATEVER THE INPUT: true; the input reads as it did. -/
def fnExactPlayFrameSpec : ChangeSpec := { name := "fnExactPlayFrame", fn := fun _ => fun
  | [d1, d2] => { results := [.lit (.bool true)], args := [d1, d2] }
  | _ => none }
def fnExactPlayFrameRow : OpenClaim := { program := "ytogcikjkfobjiaadoor", sum := "007362be6952e33100091b6e2ccc0da543e195ca2719d7dcab3f219980d55517", func := "loop.example/g01368/laws.FnExactPlayFrame", spec := "fnExactPlayFrame", inPlace := ["internal/bytealg.IndexByteString", "internal/bytealg.IndexString"], recurses := true, named := ["internal/strconv.uint64pow10", "math/bits.deBruijn32tab", "math/bits.deBruijn64tab", "internal/bytealg.MaxLen", "unicode/utf8.first", "unicode/utf8.acceptRanges"], plainKeys := false, apart := false, laid := [("math/bits.deBruijn32tab", laid_math_bits_deBruijn32tab), ("math/bits.deBruijn64tab", laid_math_bits_deBruijn64tab), ("internal/strconv.uint64pow10", laid_internal_strconv_uint64pow10), ("unicode/utf8.acceptRanges", laid_unicode_utf8_acceptRanges), ("unicode/utf8.first", laid_unicode_utf8_first)] }
def FnExactPlayFrameSaid : Prop := fnExactPlayFrameRow.holds Tryd.pinned (OpenSpec.ofChange fnExactPlayFrameSpec)

/-- ITS FALSE NEIGHBOUR: 'it returns false'. Refute it at one input. -/
def fnExactPlayFrameWrong : ChangeSpec := { name := "fnExactPlayFrame", fn := fun _ => fun
  | [d1, d2] => { results := [.lit (.bool false)], args := [d1, d2] }
  | _ => none }
def FnExactPlayFrameWrongFalsely : Prop := fnExactPlayFrameRow.holds Tryd.pinned (OpenSpec.ofChange fnExactPlayFrameWrong)

/- THE SECOND FORM. 'bulk': how many values and letters a reading holds, each counted each time it is reached (what is shared counts as often as it is met; a slice's spare places count too). A statement '..UptoSaid' is the law's where the arguments, and the package variables that the reading takes, are together of bulk at most 1048576: NARROWER than '..Said'. Prove '..Said' where nothing that the law and all that it calls make is longer than what came in: it says more and counts as full. Else prove '..UptoSaid'. A law counts once. -/
mutual
def uptoBulk {H : Type} : DataW H → Nat
  | .lit (.string bytes) => bytes.length + 1
  | .lit _ => 1
  | .nil => 1
  | .ptr d => uptoBulk d + 1
  | .slice elems spare => uptoBulkAll elems + uptoBulkAll spare + 1
  | .agg parts => uptoBulkAll parts + 1
  | .iface _ d => uptoBulk d + 1
  | .map entries => uptoBulkEntries entries + 1
  | .held _ => 1
def uptoBulkAll {H : Type} : List (DataW H) → Nat
  | [] => 0
  | d :: r => uptoBulk d + uptoBulkAll r
def uptoBulkEntries {H : Type} : List (Lit × DataW H) → Nat
  | [] => 0
  | x :: r => uptoBulkEntry x + uptoBulkEntries r
def uptoBulkEntry {H : Type} : Lit × DataW H → Nat
  | (.string bytes, d) => bytes.length + uptoBulk d + 1
  | (_, d) => uptoBulk d + 1
 end
def uptoSmall : (H : Type) → List (DataW H) → Bool := fun _ ds => decide (uptoBulkAll ds ≤ 1048576)
def OpenSpec.upto (s : _root_.Go.ChangeSpec) : _root_.Go.OpenSpec := { _root_.Go.OpenSpec.ofChange s with cond := some uptoSmall }

/-- 'laws.FnExactLeastBreak', WHERE WHAT IT READS IS OF BULK AT MOST 1048576: true; the input reads as it did. -/
def fnExactLeastBreakUptoRow : OpenClaim := { program := "ytogcikjkfobjiaadoor", sum := "007362be6952e33100091b6e2ccc0da543e195ca2719d7dcab3f219980d55517", func := "loop.example/g01368/laws.FnExactLeastBreak", spec := "fnExactLeastBreak", recurses := true, named := ["internal/strconv.uint64pow10", "math/bits.deBruijn32tab", "math/bits.deBruijn64tab"], plainKeys := false, apart := false, laid := [("math/bits.deBruijn32tab", laid_math_bits_deBruijn32tab), ("math/bits.deBruijn64tab", laid_math_bits_deBruijn64tab), ("internal/strconv.uint64pow10", laid_internal_strconv_uint64pow10)], narrowed := true }
def FnExactLeastBreakUptoSaid : Prop := fnExactLeastBreakUptoRow.holds Tryd.pinned (OpenSpec.upto fnExactLeastBreakSpec)

/-- 'laws.FnExactHighestBreak', WHERE WHAT IT READS IS OF BULK AT MOST 1048576: true; the input reads as it did. -/
def fnExactHighestBreakUptoRow : OpenClaim := { program := "ytogcikjkfobjiaadoor", sum := "007362be6952e33100091b6e2ccc0da543e195ca2719d7dcab3f219980d55517", func := "loop.example/g01368/laws.FnExactHighestBreak", spec := "fnExactHighestBreak", recurses := true, named := ["internal/strconv.uint64pow10", "math/bits.deBruijn32tab", "math/bits.deBruijn64tab"], plainKeys := false, apart := false, laid := [("math/bits.deBruijn32tab", laid_math_bits_deBruijn32tab), ("math/bits.deBruijn64tab", laid_math_bits_deBruijn64tab), ("internal/strconv.uint64pow10", laid_internal_strconv_uint64pow10)], narrowed := true }
def FnExactHighestBreakUptoSaid : Prop := fnExactHighestBreakUptoRow.holds Tryd.pinned (OpenSpec.upto fnExactHighestBreakSpec)

/-- 'laws.FnExactPointsLeft', WHERE WHAT IT READS IS OF BULK AT MOST 1048576: true; the input reads as it did. -/
def fnExactPointsLeftUptoRow : OpenClaim := { program := "ytogcikjkfobjiaadoor", sum := "007362be6952e33100091b6e2ccc0da543e195ca2719d7dcab3f219980d55517", func := "loop.example/g01368/laws.FnExactPointsLeft", spec := "fnExactPointsLeft", recurses := true, named := ["internal/strconv.uint64pow10", "math/bits.deBruijn32tab", "math/bits.deBruijn64tab"], plainKeys := false, apart := false, laid := [("math/bits.deBruijn32tab", laid_math_bits_deBruijn32tab), ("math/bits.deBruijn64tab", laid_math_bits_deBruijn64tab), ("internal/strconv.uint64pow10", laid_internal_strconv_uint64pow10)], narrowed := true }
def FnExactPointsLeftUptoSaid : Prop := fnExactPointsLeftUptoRow.holds Tryd.pinned (OpenSpec.upto fnExactPointsLeftSpec)

/-- 'laws.FnExactCanStillWin', WHERE WHAT IT READS IS OF BULK AT MOST 1048576: true; the input reads as it did. -/
def fnExactCanStillWinUptoRow : OpenClaim := { program := "ytogcikjkfobjiaadoor", sum := "007362be6952e33100091b6e2ccc0da543e195ca2719d7dcab3f219980d55517", func := "loop.example/g01368/laws.FnExactCanStillWin", spec := "fnExactCanStillWin", recurses := true, named := ["internal/strconv.uint64pow10", "math/bits.deBruijn32tab", "math/bits.deBruijn64tab"], plainKeys := false, apart := false, laid := [("math/bits.deBruijn32tab", laid_math_bits_deBruijn32tab), ("math/bits.deBruijn64tab", laid_math_bits_deBruijn64tab), ("internal/strconv.uint64pow10", laid_internal_strconv_uint64pow10)], narrowed := true }
def FnExactCanStillWinUptoSaid : Prop := fnExactCanStillWinUptoRow.holds Tryd.pinned (OpenSpec.upto fnExactCanStillWinSpec)

/-- 'laws.FnExactFoulsNeeded', WHERE WHAT IT READS IS OF BULK AT MOST 1048576: true; the input reads as it did. -/
def fnExactFoulsNeededUptoRow : OpenClaim := { program := "ytogcikjkfobjiaadoor", sum := "007362be6952e33100091b6e2ccc0da543e195ca2719d7dcab3f219980d55517", func := "loop.example/g01368/laws.FnExactFoulsNeeded", spec := "fnExactFoulsNeeded", recurses := true, named := ["internal/strconv.uint64pow10", "math/bits.deBruijn32tab", "math/bits.deBruijn64tab"], plainKeys := false, apart := false, laid := [("math/bits.deBruijn32tab", laid_math_bits_deBruijn32tab), ("math/bits.deBruijn64tab", laid_math_bits_deBruijn64tab), ("internal/strconv.uint64pow10", laid_internal_strconv_uint64pow10)], narrowed := true }
def FnExactFoulsNeededUptoSaid : Prop := fnExactFoulsNeededUptoRow.holds Tryd.pinned (OpenSpec.upto fnExactFoulsNeededSpec)

/-- 'laws.FnExactCountByPoints', WHERE WHAT IT READS IS OF BULK AT MOST 1048576: true; the input reads as it did. -/
def fnExactCountByPointsUptoRow : OpenClaim := { program := "ytogcikjkfobjiaadoor", sum := "007362be6952e33100091b6e2ccc0da543e195ca2719d7dcab3f219980d55517", func := "loop.example/g01368/laws.FnExactCountByPoints", spec := "fnExactCountByPoints", unfollowed := true, recurses := true, named := ["internal/strconv.uint64pow10", "math/bits.deBruijn32tab", "math/bits.deBruijn64tab"], plainKeys := false, apart := false, laid := [("math/bits.deBruijn32tab", laid_math_bits_deBruijn32tab), ("math/bits.deBruijn64tab", laid_math_bits_deBruijn64tab), ("internal/strconv.uint64pow10", laid_internal_strconv_uint64pow10)], narrowed := true }
def FnExactCountByPointsUptoSaid : Prop := fnExactCountByPointsUptoRow.holds Tryd.pinned (OpenSpec.upto fnExactCountByPointsSpec)

/-- 'laws.FnExactFirstWithPoints', WHERE WHAT IT READS IS OF BULK AT MOST 1048576: true; the input reads as it did. -/
def fnExactFirstWithPointsUptoRow : OpenClaim := { program := "ytogcikjkfobjiaadoor", sum := "007362be6952e33100091b6e2ccc0da543e195ca2719d7dcab3f219980d55517", func := "loop.example/g01368/laws.FnExactFirstWithPoints", spec := "fnExactFirstWithPoints", unfollowed := true, recurses := true, named := ["internal/strconv.uint64pow10", "math/bits.deBruijn32tab", "math/bits.deBruijn64tab"], plainKeys := false, apart := false, laid := [("math/bits.deBruijn32tab", laid_math_bits_deBruijn32tab), ("math/bits.deBruijn64tab", laid_math_bits_deBruijn64tab), ("internal/strconv.uint64pow10", laid_internal_strconv_uint64pow10)], narrowed := true }
def FnExactFirstWithPointsUptoSaid : Prop := fnExactFirstWithPointsUptoRow.holds Tryd.pinned (OpenSpec.upto fnExactFirstWithPointsSpec)

/-- 'laws.FnExactPotBall', WHERE WHAT IT READS IS OF BULK AT MOST 1048576: true; the input reads as it did. -/
def fnExactPotBallUptoRow : OpenClaim := { program := "ytogcikjkfobjiaadoor", sum := "007362be6952e33100091b6e2ccc0da543e195ca2719d7dcab3f219980d55517", func := "loop.example/g01368/laws.FnExactPotBall", spec := "fnExactPotBall", inPlace := ["internal/bytealg.IndexByteString", "internal/bytealg.IndexString"], recurses := true, named := ["internal/strconv.uint64pow10", "math/bits.deBruijn32tab", "math/bits.deBruijn64tab", "internal/bytealg.MaxLen"], plainKeys := false, apart := false, laid := [("math/bits.deBruijn32tab", laid_math_bits_deBruijn32tab), ("math/bits.deBruijn64tab", laid_math_bits_deBruijn64tab), ("internal/strconv.uint64pow10", laid_internal_strconv_uint64pow10)], narrowed := true }
def FnExactPotBallUptoSaid : Prop := fnExactPotBallUptoRow.holds Tryd.pinned (OpenSpec.upto fnExactPotBallSpec)

/-- 'laws.FnExactIsBreak', WHERE WHAT IT READS IS OF BULK AT MOST 1048576: true; the input reads as it did. -/
def fnExactIsBreakUptoRow : OpenClaim := { program := "ytogcikjkfobjiaadoor", sum := "007362be6952e33100091b6e2ccc0da543e195ca2719d7dcab3f219980d55517", func := "loop.example/g01368/laws.FnExactIsBreak", spec := "fnExactIsBreak", inPlace := ["internal/bytealg.IndexByteString", "internal/bytealg.IndexString"], recurses := true, named := ["internal/strconv.uint64pow10", "math/bits.deBruijn32tab", "math/bits.deBruijn64tab", "internal/bytealg.MaxLen"], plainKeys := false, apart := false, laid := [("math/bits.deBruijn32tab", laid_math_bits_deBruijn32tab), ("math/bits.deBruijn64tab", laid_math_bits_deBruijn64tab), ("internal/strconv.uint64pow10", laid_internal_strconv_uint64pow10)], narrowed := true }
def FnExactIsBreakUptoSaid : Prop := fnExactIsBreakUptoRow.holds Tryd.pinned (OpenSpec.upto fnExactIsBreakSpec)

/-- 'laws.FnExactFrameAfter', WHERE WHAT IT READS IS OF BULK AT MOST 1048576: true; the input reads as it did. -/
def fnExactFrameAfterUptoRow : OpenClaim := { program := "ytogcikjkfobjiaadoor", sum := "007362be6952e33100091b6e2ccc0da543e195ca2719d7dcab3f219980d55517", func := "loop.example/g01368/laws.FnExactFrameAfter", spec := "fnExactFrameAfter", inPlace := ["internal/bytealg.IndexByteString", "internal/bytealg.IndexString"], recurses := true, named := ["internal/strconv.uint64pow10", "math/bits.deBruijn32tab", "math/bits.deBruijn64tab", "internal/bytealg.MaxLen"], plainKeys := false, apart := false, laid := [("math/bits.deBruijn32tab", laid_math_bits_deBruijn32tab), ("math/bits.deBruijn64tab", laid_math_bits_deBruijn64tab), ("internal/strconv.uint64pow10", laid_internal_strconv_uint64pow10)], narrowed := true }
def FnExactFrameAfterUptoSaid : Prop := fnExactFrameAfterUptoRow.holds Tryd.pinned (OpenSpec.upto fnExactFrameAfterSpec)

/-- 'laws.FnExactPlayFrame', WHERE WHAT IT READS IS OF BULK AT MOST 1048576: true; the input reads as it did. -/
def fnExactPlayFrameUptoRow : OpenClaim := { program := "ytogcikjkfobjiaadoor", sum := "007362be6952e33100091b6e2ccc0da543e195ca2719d7dcab3f219980d55517", func := "loop.example/g01368/laws.FnExactPlayFrame", spec := "fnExactPlayFrame", inPlace := ["internal/bytealg.IndexByteString", "internal/bytealg.IndexString"], recurses := true, named := ["internal/strconv.uint64pow10", "math/bits.deBruijn32tab", "math/bits.deBruijn64tab", "internal/bytealg.MaxLen", "unicode/utf8.first", "unicode/utf8.acceptRanges"], plainKeys := false, apart := false, laid := [("math/bits.deBruijn32tab", laid_math_bits_deBruijn32tab), ("math/bits.deBruijn64tab", laid_math_bits_deBruijn64tab), ("internal/strconv.uint64pow10", laid_internal_strconv_uint64pow10), ("unicode/utf8.acceptRanges", laid_unicode_utf8_acceptRanges), ("unicode/utf8.first", laid_unicode_utf8_first)], narrowed := true }
def FnExactPlayFrameUptoSaid : Prop := fnExactPlayFrameUptoRow.holds Tryd.pinned (OpenSpec.upto fnExactPlayFrameSpec)

end Rows
end Go.Proofs.YtogcikjkfobjiaaDoor
