/-
  No cell of these rows narrows 'for every input' (looked for: loops, veiled, ifaces, maps, wideKeys, modest, calm, conditions, laid).
  DERIVED. THE GIVEN ROWS OF THIS SEAT. 12 by the template 'for every input the law returns true; each argument reads behind the call as it read before'; 0 by the template 'total and deterministic' (their statements: YtmecamlnbjpkjaaTotals.lean).
  GIVEN WITH THE SEED: the statements are not yours to turn. If you find one false, say at which input.
  Laid BY PROGRAM, IN A SANDBOX (cutbox-rows.mjs): the forced cells as the released guide's own fill.sh prints them over the translation fa0b9b99ea4ab982… (all of the seat's roots in one cut). By AI agents, Wed Nov 11 2026. No macro, syntax, notation, axiom, sorry.
-/
import Derived.Test.YtmecamlnbjpkjaaChecked
import GoSem.Claim
import GoSem.ClaimJoined
import GoSem.ClaimMapViews
import Derived.JoinedTies
import Derived.KernelRfl
namespace Go.Proofs.Ytmecamlnbjpkjaa
/- THE CELL 'sum', in the pinned program and in every row, IS THE sha256 OF THE DUMP (.gsa) THAT YtmecamlnbjpkjaaProg.lean LOADS. Nothing in Lean hashes anything: it is a label: what it is worth is what the hold of that sum in a sandbox is worth. -/
noncomputable def Try.pinned : Pinned := { name := "ytmecamlnbjpkjaa", sum := "fa0b9b99ea4ab982481b936225ceea0e4c6c625a0a0ecf10c2c84335e23723c8", checked := Try.checked }
namespace Rows
def none {H : Type} : Left H := { results := [], args := [] }

/-- 'laws.FnExactAreKinds': WHATEVER THE INPUT: true; the input reads as it did. -/
def fnExactAreKindsSpec : ChangeSpec := { name := "fnExactAreKinds", fn := fun _ => fun
  | [d] => { results := [.lit (.bool true)], args := [d] }
  | _ => none }
def fnExactAreKindsRow : OpenClaim := { program := "ytmecamlnbjpkjaa", sum := "fa0b9b99ea4ab982481b936225ceea0e4c6c625a0a0ecf10c2c84335e23723c8", func := "loop.example/g01368/laws.FnExactAreKinds", spec := "fnExactAreKinds", apart := false }
def FnExactAreKindsSaid : Prop := fnExactAreKindsRow.holds Try.pinned (OpenSpec.ofChange fnExactAreKindsSpec)

/-- ITS FALSE NEIGHBOUR: 'it returns false'. Refute it at one input. -/
def fnExactAreKindsWrong : ChangeSpec := { name := "fnExactAreKinds", fn := fun _ => fun
  | [d] => { results := [.lit (.bool false)], args := [d] }
  | _ => none }
def FnExactAreKindsWrongFalsely : Prop := fnExactAreKindsRow.holds Try.pinned (OpenSpec.ofChange fnExactAreKindsWrong)

/-- 'laws.FnExactGoalsMissing': WHATEVER THE INPUT: true; the input reads as it did. -/
def fnExactGoalsMissingSpec : ChangeSpec := { name := "fnExactGoalsMissing", fn := fun _ => fun
  | [d1, d2] => { results := [.lit (.bool true)], args := [d1, d2] }
  | _ => none }
def fnExactGoalsMissingRow : OpenClaim := { program := "ytmecamlnbjpkjaa", sum := "fa0b9b99ea4ab982481b936225ceea0e4c6c625a0a0ecf10c2c84335e23723c8", func := "loop.example/g01368/laws.FnExactGoalsMissing", spec := "fnExactGoalsMissing", apart := false }
def FnExactGoalsMissingSaid : Prop := fnExactGoalsMissingRow.holds Try.pinned (OpenSpec.ofChange fnExactGoalsMissingSpec)

/-- ITS FALSE NEIGHBOUR: 'it returns false'. Refute it at one input. -/
def fnExactGoalsMissingWrong : ChangeSpec := { name := "fnExactGoalsMissing", fn := fun _ => fun
  | [d1, d2] => { results := [.lit (.bool false)], args := [d1, d2] }
  | _ => none }
def FnExactGoalsMissingWrongFalsely : Prop := fnExactGoalsMissingRow.holds Try.pinned (OpenSpec.ofChange fnExactGoalsMissingWrong)

/-- 'laws.FnExactCountGoalLists': WHATEVER THE INPUT: true; the input reads as it did. -/
def fnExactCountGoalListsSpec : ChangeSpec := { name := "fnExactCountGoalLists", fn := fun _ => fun
  | [d1, d2] => { results := [.lit (.bool true)], args := [d1, d2] }
  | _ => none }
def fnExactCountGoalListsRow : OpenClaim := { program := "ytmecamlnbjpkjaa", sum := "fa0b9b99ea4ab982481b936225ceea0e4c6c625a0a0ecf10c2c84335e23723c8", func := "loop.example/g01368/laws.FnExactCountGoalLists", spec := "fnExactCountGoalLists", apart := false }
def FnExactCountGoalListsSaid : Prop := fnExactCountGoalListsRow.holds Try.pinned (OpenSpec.ofChange fnExactCountGoalListsSpec)

/-- ITS FALSE NEIGHBOUR: 'it returns false'. Refute it at one input. -/
def fnExactCountGoalListsWrong : ChangeSpec := { name := "fnExactCountGoalLists", fn := fun _ => fun
  | [d1, d2] => { results := [.lit (.bool false)], args := [d1, d2] }
  | _ => none }
def FnExactCountGoalListsWrongFalsely : Prop := fnExactCountGoalListsRow.holds Try.pinned (OpenSpec.ofChange fnExactCountGoalListsWrong)

/-- 'laws.FnExactCanReach': WHATEVER THE INPUT: true; the input reads as it did. -/
def fnExactCanReachSpec : ChangeSpec := { name := "fnExactCanReach", fn := fun _ => fun
  | [d1, d2] => { results := [.lit (.bool true)], args := [d1, d2] }
  | _ => none }
def fnExactCanReachRow : OpenClaim := { program := "ytmecamlnbjpkjaa", sum := "fa0b9b99ea4ab982481b936225ceea0e4c6c625a0a0ecf10c2c84335e23723c8", func := "loop.example/g01368/laws.FnExactCanReach", spec := "fnExactCanReach", apart := false }
def FnExactCanReachSaid : Prop := fnExactCanReachRow.holds Try.pinned (OpenSpec.ofChange fnExactCanReachSpec)

/-- ITS FALSE NEIGHBOUR: 'it returns false'. Refute it at one input. -/
def fnExactCanReachWrong : ChangeSpec := { name := "fnExactCanReach", fn := fun _ => fun
  | [d1, d2] => { results := [.lit (.bool false)], args := [d1, d2] }
  | _ => none }
def FnExactCanReachWrongFalsely : Prop := fnExactCanReachRow.holds Try.pinned (OpenSpec.ofChange fnExactCanReachWrong)

/-- 'laws.FnExactIsGame': WHATEVER THE INPUT: true; the input reads as it did. -/
def fnExactIsGameSpec : ChangeSpec := { name := "fnExactIsGame", fn := fun _ => fun
  | [d1, d2] => { results := [.lit (.bool true)], args := [d1, d2] }
  | _ => none }
def fnExactIsGameRow : OpenClaim := { program := "ytmecamlnbjpkjaa", sum := "fa0b9b99ea4ab982481b936225ceea0e4c6c625a0a0ecf10c2c84335e23723c8", func := "loop.example/g01368/laws.FnExactIsGame", spec := "fnExactIsGame", apart := false }
def FnExactIsGameSaid : Prop := fnExactIsGameRow.holds Try.pinned (OpenSpec.ofChange fnExactIsGameSpec)

/-- ITS FALSE NEIGHBOUR: 'it returns false'. Refute it at one input. -/
def fnExactIsGameWrong : ChangeSpec := { name := "fnExactIsGame", fn := fun _ => fun
  | [d1, d2] => { results := [.lit (.bool false)], args := [d1, d2] }
  | _ => none }
def FnExactIsGameWrongFalsely : Prop := fnExactIsGameRow.holds Try.pinned (OpenSpec.ofChange fnExactIsGameWrong)

/-- 'laws.FnExactFewestGoals': WHATEVER THE INPUT: true; the input reads as it did. -/
def fnExactFewestGoalsSpec : ChangeSpec := { name := "fnExactFewestGoals", fn := fun _ => fun
  | [d1, d2] => { results := [.lit (.bool true)], args := [d1, d2] }
  | _ => none }
def fnExactFewestGoalsRow : OpenClaim := { program := "ytmecamlnbjpkjaa", sum := "fa0b9b99ea4ab982481b936225ceea0e4c6c625a0a0ecf10c2c84335e23723c8", func := "loop.example/g01368/laws.FnExactFewestGoals", spec := "fnExactFewestGoals", apart := false }
def FnExactFewestGoalsSaid : Prop := fnExactFewestGoalsRow.holds Try.pinned (OpenSpec.ofChange fnExactFewestGoalsSpec)

/-- ITS FALSE NEIGHBOUR: 'it returns false'. Refute it at one input. -/
def fnExactFewestGoalsWrong : ChangeSpec := { name := "fnExactFewestGoals", fn := fun _ => fun
  | [d1, d2] => { results := [.lit (.bool false)], args := [d1, d2] }
  | _ => none }
def FnExactFewestGoalsWrongFalsely : Prop := fnExactFewestGoalsRow.holds Try.pinned (OpenSpec.ofChange fnExactFewestGoalsWrong)

/-- 'laws.FnExactCountGoalOrders': WHATEVER THE INPUT: true; the input reads as it did. -/
def fnExactCountGoalOrdersSpec : ChangeSpec := { name := "fnExactCountGoalOrders", fn := fun _ => fun
  | [d1, d2] => { results := [.lit (.bool true)], args := [d1, d2] }
  | _ => none }
def fnExactCountGoalOrdersRow : OpenClaim := { program := "ytmecamlnbjpkjaa", sum := "fa0b9b99ea4ab982481b936225ceea0e4c6c625a0a0ecf10c2c84335e23723c8", func := "loop.example/g01368/laws.FnExactCountGoalOrders", spec := "fnExactCountGoalOrders", apart := false }
def FnExactCountGoalOrdersSaid : Prop := fnExactCountGoalOrdersRow.holds Try.pinned (OpenSpec.ofChange fnExactCountGoalOrdersSpec)

/-- ITS FALSE NEIGHBOUR: 'it returns false'. Refute it at one input. -/
def fnExactCountGoalOrdersWrong : ChangeSpec := { name := "fnExactCountGoalOrders", fn := fun _ => fun
  | [d1, d2] => { results := [.lit (.bool false)], args := [d1, d2] }
  | _ => none }
def FnExactCountGoalOrdersWrongFalsely : Prop := fnExactCountGoalOrdersRow.holds Try.pinned (OpenSpec.ofChange fnExactCountGoalOrdersWrong)

/-- 'laws.FnExactTurnGame': WHATEVER THE INPUT: true; the input reads as it did. -/
def fnExactTurnGameSpec : ChangeSpec := { name := "fnExactTurnGame", fn := fun _ => fun
  | [d1, d2] => { results := [.lit (.bool true)], args := [d1, d2] }
  | _ => none }
def fnExactTurnGameRow : OpenClaim := { program := "ytmecamlnbjpkjaa", sum := "fa0b9b99ea4ab982481b936225ceea0e4c6c625a0a0ecf10c2c84335e23723c8", func := "loop.example/g01368/laws.FnExactTurnGame", spec := "fnExactTurnGame", apart := false }
def FnExactTurnGameSaid : Prop := fnExactTurnGameRow.holds Try.pinned (OpenSpec.ofChange fnExactTurnGameSpec)

/-- ITS FALSE NEIGHBOUR: 'it returns false'. Refute it at one input. -/
def fnExactTurnGameWrong : ChangeSpec := { name := "fnExactTurnGame", fn := fun _ => fun
  | [d1, d2] => { results := [.lit (.bool false)], args := [d1, d2] }
  | _ => none }
def FnExactTurnGameWrongFalsely : Prop := fnExactTurnGameRow.holds Try.pinned (OpenSpec.ofChange fnExactTurnGameWrong)

/-- 'laws.FnExactNotReached': WHATEVER THE INPUT: true; the input reads as it did. -/
def fnExactNotReachedSpec : ChangeSpec := { name := "fnExactNotReached", fn := fun _ => fun
  | [d1, d2] => { results := [.lit (.bool true)], args := [d1, d2] }
  | _ => none }
def fnExactNotReachedRow : OpenClaim := { program := "ytmecamlnbjpkjaa", sum := "fa0b9b99ea4ab982481b936225ceea0e4c6c625a0a0ecf10c2c84335e23723c8", func := "loop.example/g01368/laws.FnExactNotReached", spec := "fnExactNotReached", apart := false }
def FnExactNotReachedSaid : Prop := fnExactNotReachedRow.holds Try.pinned (OpenSpec.ofChange fnExactNotReachedSpec)

/-- ITS FALSE NEIGHBOUR: 'it returns false'. Refute it at one input. -/
def fnExactNotReachedWrong : ChangeSpec := { name := "fnExactNotReached", fn := fun _ => fun
  | [d1, d2] => { results := [.lit (.bool false)], args := [d1, d2] }
  | _ => none }
def FnExactNotReachedWrongFalsely : Prop := fnExactNotReachedRow.holds Try.pinned (OpenSpec.ofChange fnExactNotReachedWrong)

/-- 'laws.FnExactGreatestNotReached': WHATEVER THE INPUT: true; the input reads as it did. -/
def fnExactGreatestNotReachedSpec : ChangeSpec := { name := "fnExactGreatestNotReached", fn := fun _ => fun
  | [d] => { results := [.lit (.bool true)], args := [d] }
  | _ => none }
def fnExactGreatestNotReachedRow : OpenClaim := { program := "ytmecamlnbjpkjaa", sum := "fa0b9b99ea4ab982481b936225ceea0e4c6c625a0a0ecf10c2c84335e23723c8", func := "loop.example/g01368/laws.FnExactGreatestNotReached", spec := "fnExactGreatestNotReached", apart := false }
def FnExactGreatestNotReachedSaid : Prop := fnExactGreatestNotReachedRow.holds Try.pinned (OpenSpec.ofChange fnExactGreatestNotReachedSpec)

/-- ITS FALSE NEIGHBOUR: 'it returns false'. Refute it at one input. -/
def fnExactGreatestNotReachedWrong : ChangeSpec := { name := "fnExactGreatestNotReached", fn := fun _ => fun
  | [d] => { results := [.lit (.bool false)], args := [d] }
  | _ => none }
def FnExactGreatestNotReachedWrongFalsely : Prop := fnExactGreatestNotReachedRow.holds Try.pinned (OpenSpec.ofChange fnExactGreatestNotReachedWrong)

/-- 'laws.FnExactCountGames': WHATEVER THE INPUT: true; the input reads as it did. -/
def fnExactCountGamesSpec : ChangeSpec := { name := "fnExactCountGames", fn := fun _ => fun
  | [d1, d2, d3] => { results := [.lit (.bool true)], args := [d1, d2, d3] }
  | _ => none }
def fnExactCountGamesRow : OpenClaim := { program := "ytmecamlnbjpkjaa", sum := "fa0b9b99ea4ab982481b936225ceea0e4c6c625a0a0ecf10c2c84335e23723c8", func := "loop.example/g01368/laws.FnExactCountGames", spec := "fnExactCountGames", apart := false }
def FnExactCountGamesSaid : Prop := fnExactCountGamesRow.holds Try.pinned (OpenSpec.ofChange fnExactCountGamesSpec)

/-- ITS FALSE NEIGHBOUR: 'it returns false'. Refute it at one input. -/
def fnExactCountGamesWrong : ChangeSpec := { name := "fnExactCountGames", fn := fun _ => fun
  | [d1, d2, d3] => { results := [.lit (.bool false)], args := [d1, d2, d3] }
  | _ => none }
def FnExactCountGamesWrongFalsely : Prop := fnExactCountGamesRow.holds Try.pinned (OpenSpec.ofChange fnExactCountGamesWrong)

/-- 'laws.FnExactCountNeverBehind': WHATEVER THE INPUT: true; the input reads as it did. -/
def fnExactCountNeverBehindSpec : ChangeSpec := { name := "fnExactCountNeverBehind", fn := fun _ => fun
  | [d1, d2, d3] => { results := [.lit (.bool true)], args := [d1, d2, d3] }
  | _ => none }
def fnExactCountNeverBehindRow : OpenClaim := { program := "ytmecamlnbjpkjaa", sum := "fa0b9b99ea4ab982481b936225ceea0e4c6c625a0a0ecf10c2c84335e23723c8", func := "loop.example/g01368/laws.FnExactCountNeverBehind", spec := "fnExactCountNeverBehind", apart := false }
def FnExactCountNeverBehindSaid : Prop := fnExactCountNeverBehindRow.holds Try.pinned (OpenSpec.ofChange fnExactCountNeverBehindSpec)

/-- ITS FALSE NEIGHBOUR: 'it returns false'. Refute it at one input. -/
def fnExactCountNeverBehindWrong : ChangeSpec := { name := "fnExactCountNeverBehind", fn := fun _ => fun
  | [d1, d2, d3] => { results := [.lit (.bool false)], args := [d1, d2, d3] }
  | _ => none }
def FnExactCountNeverBehindWrongFalsely : Prop := fnExactCountNeverBehindRow.holds Try.pinned (OpenSpec.ofChange fnExactCountNeverBehindWrong)

/- THE SECOND FORM. 'bulk': how many values and letters a reading holds, each counted each time it is reached (what is shared counts as often as it is met; a slice's spare places count too). A statement '..UptoSaid' is the law's where the arguments, and the package variables that the reading takes, are together of bulk at most 1048576: NARROWER than '..Said'. Prove '..Said' where nothing that the law and all that it calls make is longer than what came in: it says more and counts as full. Else prove '..UptoSaid'. A law counts once. -/
mutual
def uptoBulk {H : Type} : DataW H → Nat
  | .lit (.string bytes) => bytes.length + 1
  | .lit _ => 1
  | .nil => 1
  | .ptr d => uptoBulk d + 1
  | .slice elems spare => uptoBulkAll elems + uptoBulkAll spare + 1
  | .agg parts => uptoBulkAll parts + 1
  | .iface _ d => uptoBulk d + 1
  | .map entries => uptoBulkEntries entries + 1
  | .held _ => 1
def uptoBulkAll {H : Type} : List (DataW H) → Nat
  | [] => 0
  | d :: r => uptoBulk d + uptoBulkAll r
def uptoBulkEntries {H : Type} : List (Lit × DataW H) → Nat
  | [] => 0
  | x :: r => uptoBulkEntry x + uptoBulkEntries r
def uptoBulkEntry {H : Type} : Lit × DataW H → Nat
  | (.string bytes, d) => bytes.length + uptoBulk d + 1
  | (_, d) => uptoBulk d + 1
 end
def uptoSmall : (H : Type) → List (DataW H) → Bool := fun _ ds => decide (uptoBulkAll ds ≤ 1048576)
def OpenSpec.upto (s : _root_.Go.ChangeSpec) : _root_.Go.OpenSpec := { _root_.Go.OpenSpec.ofChange s with cond := some uptoSmall }

/-- 'laws.FnExactAreKinds', WHERE WHAT IT READS IS OF BULK AT MOST 1048576: true; the input reads as it did. -/
def fnExactAreKindsUptoRow : OpenClaim := { program := "ytmecamlnbjpkjaa", sum := "fa0b9b99ea4ab982481b936225ceea0e4c6c625a0a0ecf10c2c84335e23723c8", func := "loop.example/g01368/laws.FnExactAreKinds", spec := "fnExactAreKinds", apart := false, narrowed := true }
def FnExactAreKindsUptoSaid : Prop := fnExactAreKindsUptoRow.holds Try.pinned (OpenSpec.upto fnExactAreKindsSpec)

/-- 'laws.FnExactGoalsMissing', WHERE WHAT IT READS IS OF BULK AT MOST 1048576: true; the input reads as it did. -/
def fnExactGoalsMissingUptoRow : OpenClaim := { program := "ytmecamlnbjpkjaa", sum := "fa0b9b99ea4ab982481b936225ceea0e4c6c625a0a0ecf10c2c84335e23723c8", func := "loop.example/g01368/laws.FnExactGoalsMissing", spec := "fnExactGoalsMissing", apart := false, narrowed := true }
def FnExactGoalsMissingUptoSaid : Prop := fnExactGoalsMissingUptoRow.holds Try.pinned (OpenSpec.upto fnExactGoalsMissingSpec)

/-- 'laws.FnExactCountGoalLists', WHERE WHAT IT READS IS OF BULK AT MOST 1048576: true; the input reads as it did. -/
def fnExactCountGoalListsUptoRow : OpenClaim := { program := "ytmecamlnbjpkjaa", sum := "fa0b9b99ea4ab982481b936225ceea0e4c6c625a0a0ecf10c2c84335e23723c8", func := "loop.example/g01368/laws.FnExactCountGoalLists", spec := "fnExactCountGoalLists", apart := false, narrowed := true }
def FnExactCountGoalListsUptoSaid : Prop := fnExactCountGoalListsUptoRow.holds Try.pinned (OpenSpec.upto fnExactCountGoalListsSpec)

/-- 'laws.FnExactCanReach', WHERE WHAT IT READS IS OF BULK AT MOST 1048576: true; the input reads as it did. -/
def fnExactCanReachUptoRow : OpenClaim := { program := "ytmecamlnbjpkjaa", sum := "fa0b9b99ea4ab982481b936225ceea0e4c6c625a0a0ecf10c2c84335e23723c8", func := "loop.example/g01368/laws.FnExactCanReach", spec := "fnExactCanReach", apart := false, narrowed := true }
def FnExactCanReachUptoSaid : Prop := fnExactCanReachUptoRow.holds Try.pinned (OpenSpec.upto fnExactCanReachSpec)

/-- 'laws.FnExactIsGame', WHERE WHAT IT READS IS OF BULK AT MOST 1048576: true; the input reads as it did. -/
def fnExactIsGameUptoRow : OpenClaim := { program := "ytmecamlnbjpkjaa", sum := "fa0b9b99ea4ab982481b936225ceea0e4c6c625a0a0ecf10c2c84335e23723c8", func := "loop.example/g01368/laws.FnExactIsGame", spec := "fnExactIsGame", apart := false, narrowed := true }
def FnExactIsGameUptoSaid : Prop := fnExactIsGameUptoRow.holds Try.pinned (OpenSpec.upto fnExactIsGameSpec)

/-- 'laws.FnExactFewestGoals', WHERE WHAT IT READS IS OF BULK AT MOST 1048576: true; the input reads as it did. -/
def fnExactFewestGoalsUptoRow : OpenClaim := { program := "ytmecamlnbjpkjaa", sum := "fa0b9b99ea4ab982481b936225ceea0e4c6c625a0a0ecf10c2c84335e23723c8", func := "loop.example/g01368/laws.FnExactFewestGoals", spec := "fnExactFewestGoals", apart := false, narrowed := true }
def FnExactFewestGoalsUptoSaid : Prop := fnExactFewestGoalsUptoRow.holds Try.pinned (OpenSpec.upto fnExactFewestGoalsSpec)

/-- 'laws.FnExactCountGoalOrders', WHERE WHAT IT READS IS OF BULK AT MOST 1048576: true; the input reads as it did. -/
def fnExactCountGoalOrdersUptoRow : OpenClaim := { program := "ytmecamlnbjpkjaa", sum := "fa0b9b99ea4ab982481b936225ceea0e4c6c625a0a0ecf10c2c84335e23723c8", func := "loop.example/g01368/laws.FnExactCountGoalOrders", spec := "fnExactCountGoalOrders", apart := false, narrowed := true }
def FnExactCountGoalOrdersUptoSaid : Prop := fnExactCountGoalOrdersUptoRow.holds Try.pinned (OpenSpec.upto fnExactCountGoalOrdersSpec)

/-- 'laws.FnExactTurnGame', WHERE WHAT IT READS IS OF BULK AT MOST 1048576: true; the input reads as it did. -/
def fnExactTurnGameUptoRow : OpenClaim := { program := "ytmecamlnbjpkjaa", sum := "fa0b9b99ea4ab982481b936225ceea0e4c6c625a0a0ecf10c2c84335e23723c8", func := "loop.example/g01368/laws.FnExactTurnGame", spec := "fnExactTurnGame", apart := false, narrowed := true }
def FnExactTurnGameUptoSaid : Prop := fnExactTurnGameUptoRow.holds Try.pinned (OpenSpec.upto fnExactTurnGameSpec)

/-- 'laws.FnExactNotReached', WHERE WHAT IT READS IS OF BULK AT MOST 1048576: true; the input reads as it did. -/
def fnExactNotReachedUptoRow : OpenClaim := { program := "ytmecamlnbjpkjaa", sum := "fa0b9b99ea4ab982481b936225ceea0e4c6c625a0a0ecf10c2c84335e23723c8", func := "loop.example/g01368/laws.FnExactNotReached", spec := "fnExactNotReached", apart := false, narrowed := true }
def FnExactNotReachedUptoSaid : Prop := fnExactNotReachedUptoRow.holds Try.pinned (OpenSpec.upto fnExactNotReachedSpec)

/-- 'laws.FnExactGreatestNotReached', WHERE WHAT IT READS IS OF BULK AT MOST 1048576: true; the input reads as it did. -/
def fnExactGreatestNotReachedUptoRow : OpenClaim := { program := "ytmecamlnbjpkjaa", sum := "fa0b9b99ea4ab982481b936225ceea0e4c6c625a0a0ecf10c2c84335e23723c8", func := "loop.example/g01368/laws.FnExactGreatestNotReached", spec := "fnExactGreatestNotReached", apart := false, narrowed := true }
def FnExactGreatestNotReachedUptoSaid : Prop := fnExactGreatestNotReachedUptoRow.holds Try.pinned (OpenSpec.upto fnExactGreatestNotReachedSpec)

/-- 'laws.FnExactCountGames', WHERE WHAT IT READS IS OF BULK AT MOST 1048576: true; the input reads as it did. -/
def fnExactCountGamesUptoRow : OpenClaim := { program := "ytmecamlnbjpkjaa", sum := "fa0b9b99ea4ab982481b936225ceea0e4c6c625a0a0ecf10c2c84335e23723c8", func := "loop.example/g01368/laws.FnExactCountGames", spec := "fnExactCountGames", apart := false, narrowed := true }
def FnExactCountGamesUptoSaid : Prop := fnExactCountGamesUptoRow.holds Try.pinned (OpenSpec.upto fnExactCountGamesSpec)

/-- 'laws.FnExactCountNeverBehind', WHERE WHAT IT READS IS OF BULK AT MOST 1048576: true; the input reads as it did. -/
def fnExactCountNeverBehindUptoRow : OpenClaim := { program := "ytmecamlnbjpkjaa", sum := "fa0b9b99ea4ab982481b936225ceea0e4c6c625a0a0ecf10c2c84335e23723c8", func := "loop.example/g01368/laws.FnExactCountNeverBehind", spec := "fnExactCountNeverBehind", apart := false, narrowed := true }
def FnExactCountNeverBehindUptoSaid : Prop := fnExactCountNeverBehindUptoRow.holds Try.pinned (OpenSpec.upto fnExactCountNeverBehindSpec)

end Rows
end Go.Proofs.Ytmecamlnbjpkjaa
