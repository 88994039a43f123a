/-
  No cell of these rows narrows 'for every input' (looked for: loops, veiled, ifaces, maps, wideKeys, modest, calm, conditions, laid).
  DERIVED. THE GIVEN ROWS OF THIS SEAT. 12 by the template 'for every input the law returns true; each argument reads behind the call as it read before'; 0 by the template 'total and deterministic' (their statements: YtnpnbgohdmonmaaTotals.lean).
  GIVEN WITH THE SEED: the statements are not yours to turn. If you find one false, say at which input.
  Laid BY PROGRAM, IN A SANDBOX (cutbox-rows.mjs): the forced cells as the released guide's own fill.sh prints them over the translation c1676f6e36e1c5a1… (all of the seat's roots in one cut). By AI agents, Wed Nov 11 2026. No macro, syntax, notation, axiom, sorry.
-/
import Derived.Test.YtnpnbgohdmonmaaChecked
import GoSem.Claim
import GoSem.ClaimJoined
import GoSem.ClaimMapViews
import Derived.JoinedTies
import Derived.KernelRfl
namespace Go.Proofs.Ytnpnbgohdmonmaa
/- THE CELL 'sum', in the pinned program and in every row, IS THE sha256 OF THE DUMP (.gsa) THAT YtnpnbgohdmonmaaProg.lean LOADS. Nothing in Lean hashes anything: it is a label: what it is worth is what the hold of that sum in a sandbox is worth. -/
noncomputable def Try.pinned : Pinned := { name := "ytnpnbgohdmonmaa", sum := "c1676f6e36e1c5a13b88c898d73fe56c43e9427f708641378ef73556d2182526", checked := Try.checked }
namespace Rows
def none {H : Type} : Left H := { results := [], args := [] }

/-- 'laws.FnExactAreRolls': WHATEVER THE INPUT: true; the input reads as it did. -/
def fnExactAreRollsSpec : ChangeSpec := { name := "fnExactAreRolls", fn := fun _ => fun
  | [d1, d2] => { results := [.lit (.bool true)], args := [d1, d2] }
  | _ => none }
def fnExactAreRollsRow : OpenClaim := { program := "ytnpnbgohdmonmaa", sum := "c1676f6e36e1c5a13b88c898d73fe56c43e9427f708641378ef73556d2182526", func := "loop.example/g01368/laws.FnExactAreRolls", spec := "fnExactAreRolls", apart := false }
def FnExactAreRollsSaid : Prop := fnExactAreRollsRow.holds Try.pinned (OpenSpec.ofChange fnExactAreRollsSpec)

/-- ITS FALSE NEIGHBOUR: 'it returns false'. Refute it at one input. -/
def fnExactAreRollsWrong : ChangeSpec := { name := "fnExactAreRolls", fn := fun _ => fun
  | [d1, d2] => { results := [.lit (.bool false)], args := [d1, d2] }
  | _ => none }
def FnExactAreRollsWrongFalsely : Prop := fnExactAreRollsRow.holds Try.pinned (OpenSpec.ofChange fnExactAreRollsWrong)

/-- 'laws.FnExactAreAll': WHATEVER THE INPUT: true; the input reads as it did. -/
def fnExactAreAllSpec : ChangeSpec := { name := "fnExactAreAll", fn := fun _ => fun
  | [d1, d2] => { results := [.lit (.bool true)], args := [d1, d2] }
  | _ => none }
def fnExactAreAllRow : OpenClaim := { program := "ytnpnbgohdmonmaa", sum := "c1676f6e36e1c5a13b88c898d73fe56c43e9427f708641378ef73556d2182526", func := "loop.example/g01368/laws.FnExactAreAll", spec := "fnExactAreAll", apart := false }
def FnExactAreAllSaid : Prop := fnExactAreAllRow.holds Try.pinned (OpenSpec.ofChange fnExactAreAllSpec)

/-- ITS FALSE NEIGHBOUR: 'it returns false'. Refute it at one input. -/
def fnExactAreAllWrong : ChangeSpec := { name := "fnExactAreAll", fn := fun _ => fun
  | [d1, d2] => { results := [.lit (.bool false)], args := [d1, d2] }
  | _ => none }
def FnExactAreAllWrongFalsely : Prop := fnExactAreAllRow.holds Try.pinned (OpenSpec.ofChange fnExactAreAllWrong)

/-- 'laws.FnExactStandingPins': WHATEVER THE INPUT: true; the input reads as it did. -/
def fnExactStandingPinsSpec : ChangeSpec := { name := "fnExactStandingPins", fn := fun _ => fun
  | [d1, d2] => { results := [.lit (.bool true)], args := [d1, d2] }
  | _ => none }
def fnExactStandingPinsRow : OpenClaim := { program := "ytnpnbgohdmonmaa", sum := "c1676f6e36e1c5a13b88c898d73fe56c43e9427f708641378ef73556d2182526", func := "loop.example/g01368/laws.FnExactStandingPins", spec := "fnExactStandingPins", apart := false }
def FnExactStandingPinsSaid : Prop := fnExactStandingPinsRow.holds Try.pinned (OpenSpec.ofChange fnExactStandingPinsSpec)

/-- ITS FALSE NEIGHBOUR: 'it returns false'. Refute it at one input. -/
def fnExactStandingPinsWrong : ChangeSpec := { name := "fnExactStandingPins", fn := fun _ => fun
  | [d1, d2] => { results := [.lit (.bool false)], args := [d1, d2] }
  | _ => none }
def FnExactStandingPinsWrongFalsely : Prop := fnExactStandingPinsRow.holds Try.pinned (OpenSpec.ofChange fnExactStandingPinsWrong)

/-- 'laws.FnExactSparesIn': WHATEVER THE INPUT: true; the input reads as it did. -/
def fnExactSparesInSpec : ChangeSpec := { name := "fnExactSparesIn", fn := fun _ => fun
  | [d1, d2] => { results := [.lit (.bool true)], args := [d1, d2] }
  | _ => none }
def fnExactSparesInRow : OpenClaim := { program := "ytnpnbgohdmonmaa", sum := "c1676f6e36e1c5a13b88c898d73fe56c43e9427f708641378ef73556d2182526", func := "loop.example/g01368/laws.FnExactSparesIn", spec := "fnExactSparesIn", apart := false }
def FnExactSparesInSaid : Prop := fnExactSparesInRow.holds Try.pinned (OpenSpec.ofChange fnExactSparesInSpec)

/-- ITS FALSE NEIGHBOUR: 'it returns false'. Refute it at one input. -/
def fnExactSparesInWrong : ChangeSpec := { name := "fnExactSparesIn", fn := fun _ => fun
  | [d1, d2] => { results := [.lit (.bool false)], args := [d1, d2] }
  | _ => none }
def FnExactSparesInWrongFalsely : Prop := fnExactSparesInRow.holds Try.pinned (OpenSpec.ofChange fnExactSparesInWrong)

/-- 'laws.FnExactStrikesIn': WHATEVER THE INPUT: true; the input reads as it did. -/
def fnExactStrikesInSpec : ChangeSpec := { name := "fnExactStrikesIn", fn := fun _ => fun
  | [d1, d2] => { results := [.lit (.bool true)], args := [d1, d2] }
  | _ => none }
def fnExactStrikesInRow : OpenClaim := { program := "ytnpnbgohdmonmaa", sum := "c1676f6e36e1c5a13b88c898d73fe56c43e9427f708641378ef73556d2182526", func := "loop.example/g01368/laws.FnExactStrikesIn", spec := "fnExactStrikesIn", apart := false }
def FnExactStrikesInSaid : Prop := fnExactStrikesInRow.holds Try.pinned (OpenSpec.ofChange fnExactStrikesInSpec)

/-- ITS FALSE NEIGHBOUR: 'it returns false'. Refute it at one input. -/
def fnExactStrikesInWrong : ChangeSpec := { name := "fnExactStrikesIn", fn := fun _ => fun
  | [d1, d2] => { results := [.lit (.bool false)], args := [d1, d2] }
  | _ => none }
def FnExactStrikesInWrongFalsely : Prop := fnExactStrikesInRow.holds Try.pinned (OpenSpec.ofChange fnExactStrikesInWrong)

/-- 'laws.FnExactRollsLeft': WHATEVER THE INPUT: true; the input reads as it did. -/
def fnExactRollsLeftSpec : ChangeSpec := { name := "fnExactRollsLeft", fn := fun _ => fun
  | [d1, d2] => { results := [.lit (.bool true)], args := [d1, d2] }
  | _ => none }
def fnExactRollsLeftRow : OpenClaim := { program := "ytnpnbgohdmonmaa", sum := "c1676f6e36e1c5a13b88c898d73fe56c43e9427f708641378ef73556d2182526", func := "loop.example/g01368/laws.FnExactRollsLeft", spec := "fnExactRollsLeft", apart := false }
def FnExactRollsLeftSaid : Prop := fnExactRollsLeftRow.holds Try.pinned (OpenSpec.ofChange fnExactRollsLeftSpec)

/-- ITS FALSE NEIGHBOUR: 'it returns false'. Refute it at one input. -/
def fnExactRollsLeftWrong : ChangeSpec := { name := "fnExactRollsLeft", fn := fun _ => fun
  | [d1, d2] => { results := [.lit (.bool false)], args := [d1, d2] }
  | _ => none }
def FnExactRollsLeftWrongFalsely : Prop := fnExactRollsLeftRow.holds Try.pinned (OpenSpec.ofChange fnExactRollsLeftWrong)

/-- 'laws.FnExactFramesOfRolls': WHATEVER THE INPUT: true; the input reads as it did. -/
def fnExactFramesOfRollsSpec : ChangeSpec := { name := "fnExactFramesOfRolls", fn := fun _ => fun
  | [d1, d2] => { results := [.lit (.bool true)], args := [d1, d2] }
  | _ => none }
def fnExactFramesOfRollsRow : OpenClaim := { program := "ytnpnbgohdmonmaa", sum := "c1676f6e36e1c5a13b88c898d73fe56c43e9427f708641378ef73556d2182526", func := "loop.example/g01368/laws.FnExactFramesOfRolls", spec := "fnExactFramesOfRolls", apart := false }
def FnExactFramesOfRollsSaid : Prop := fnExactFramesOfRollsRow.holds Try.pinned (OpenSpec.ofChange fnExactFramesOfRollsSpec)

/-- ITS FALSE NEIGHBOUR: 'it returns false'. Refute it at one input. -/
def fnExactFramesOfRollsWrong : ChangeSpec := { name := "fnExactFramesOfRolls", fn := fun _ => fun
  | [d1, d2] => { results := [.lit (.bool false)], args := [d1, d2] }
  | _ => none }
def FnExactFramesOfRollsWrongFalsely : Prop := fnExactFramesOfRollsRow.holds Try.pinned (OpenSpec.ofChange fnExactFramesOfRollsWrong)

/-- 'laws.FnExactSoFar': WHATEVER THE INPUT: true; the input reads as it did. -/
def fnExactSoFarSpec : ChangeSpec := { name := "fnExactSoFar", fn := fun _ => fun
  | [d1, d2] => { results := [.lit (.bool true)], args := [d1, d2] }
  | _ => none }
def fnExactSoFarRow : OpenClaim := { program := "ytnpnbgohdmonmaa", sum := "c1676f6e36e1c5a13b88c898d73fe56c43e9427f708641378ef73556d2182526", func := "loop.example/g01368/laws.FnExactSoFar", spec := "fnExactSoFar", apart := false }
def FnExactSoFarSaid : Prop := fnExactSoFarRow.holds Try.pinned (OpenSpec.ofChange fnExactSoFarSpec)

/-- ITS FALSE NEIGHBOUR: 'it returns false'. Refute it at one input. -/
def fnExactSoFarWrong : ChangeSpec := { name := "fnExactSoFar", fn := fun _ => fun
  | [d1, d2] => { results := [.lit (.bool false)], args := [d1, d2] }
  | _ => none }
def FnExactSoFarWrongFalsely : Prop := fnExactSoFarRow.holds Try.pinned (OpenSpec.ofChange fnExactSoFarWrong)

/-- 'laws.FnExactFrameScores': WHATEVER THE INPUT: true; the input reads as it did. -/
def fnExactFrameScoresSpec : ChangeSpec := { name := "fnExactFrameScores", fn := fun _ => fun
  | [d1, d2] => { results := [.lit (.bool true)], args := [d1, d2] }
  | _ => none }
def fnExactFrameScoresRow : OpenClaim := { program := "ytnpnbgohdmonmaa", sum := "c1676f6e36e1c5a13b88c898d73fe56c43e9427f708641378ef73556d2182526", func := "loop.example/g01368/laws.FnExactFrameScores", spec := "fnExactFrameScores", apart := false }
def FnExactFrameScoresSaid : Prop := fnExactFrameScoresRow.holds Try.pinned (OpenSpec.ofChange fnExactFrameScoresSpec)

/-- ITS FALSE NEIGHBOUR: 'it returns false'. Refute it at one input. -/
def fnExactFrameScoresWrong : ChangeSpec := { name := "fnExactFrameScores", fn := fun _ => fun
  | [d1, d2] => { results := [.lit (.bool false)], args := [d1, d2] }
  | _ => none }
def FnExactFrameScoresWrongFalsely : Prop := fnExactFrameScoresRow.holds Try.pinned (OpenSpec.ofChange fnExactFrameScoresWrong)

/-- 'laws.FnExactTotalOf': WHATEVER THE INPUT: true; the input reads as it did. -/
def fnExactTotalOfSpec : ChangeSpec := { name := "fnExactTotalOf", fn := fun _ => fun
  | [d1, d2] => { results := [.lit (.bool true)], args := [d1, d2] }
  | _ => none }
def fnExactTotalOfRow : OpenClaim := { program := "ytnpnbgohdmonmaa", sum := "c1676f6e36e1c5a13b88c898d73fe56c43e9427f708641378ef73556d2182526", func := "loop.example/g01368/laws.FnExactTotalOf", spec := "fnExactTotalOf", apart := false }
def FnExactTotalOfSaid : Prop := fnExactTotalOfRow.holds Try.pinned (OpenSpec.ofChange fnExactTotalOfSpec)

/-- ITS FALSE NEIGHBOUR: 'it returns false'. Refute it at one input. -/
def fnExactTotalOfWrong : ChangeSpec := { name := "fnExactTotalOf", fn := fun _ => fun
  | [d1, d2] => { results := [.lit (.bool false)], args := [d1, d2] }
  | _ => none }
def FnExactTotalOfWrongFalsely : Prop := fnExactTotalOfRow.holds Try.pinned (OpenSpec.ofChange fnExactTotalOfWrong)

/-- 'laws.FnExactLeastTotal': WHATEVER THE INPUT: true; the input reads as it did. -/
def fnExactLeastTotalSpec : ChangeSpec := { name := "fnExactLeastTotal", fn := fun _ => fun
  | [d1, d2] => { results := [.lit (.bool true)], args := [d1, d2] }
  | _ => none }
def fnExactLeastTotalRow : OpenClaim := { program := "ytnpnbgohdmonmaa", sum := "c1676f6e36e1c5a13b88c898d73fe56c43e9427f708641378ef73556d2182526", func := "loop.example/g01368/laws.FnExactLeastTotal", spec := "fnExactLeastTotal", apart := false }
def FnExactLeastTotalSaid : Prop := fnExactLeastTotalRow.holds Try.pinned (OpenSpec.ofChange fnExactLeastTotalSpec)

/-- ITS FALSE NEIGHBOUR: 'it returns false'. Refute it at one input. -/
def fnExactLeastTotalWrong : ChangeSpec := { name := "fnExactLeastTotal", fn := fun _ => fun
  | [d1, d2] => { results := [.lit (.bool false)], args := [d1, d2] }
  | _ => none }
def FnExactLeastTotalWrongFalsely : Prop := fnExactLeastTotalRow.holds Try.pinned (OpenSpec.ofChange fnExactLeastTotalWrong)

/-- 'laws.FnExactMostTotal': WHATEVER THE INPUT: true; the input reads as it did. -/
def fnExactMostTotalSpec : ChangeSpec := { name := "fnExactMostTotal", fn := fun _ => fun
  | [d1, d2] => { results := [.lit (.bool true)], args := [d1, d2] }
  | _ => none }
def fnExactMostTotalRow : OpenClaim := { program := "ytnpnbgohdmonmaa", sum := "c1676f6e36e1c5a13b88c898d73fe56c43e9427f708641378ef73556d2182526", func := "loop.example/g01368/laws.FnExactMostTotal", spec := "fnExactMostTotal", apart := false }
def FnExactMostTotalSaid : Prop := fnExactMostTotalRow.holds Try.pinned (OpenSpec.ofChange fnExactMostTotalSpec)

/-- ITS FALSE NEIGHBOUR: 'it returns false'. Refute it at one input. -/
def fnExactMostTotalWrong : ChangeSpec := { name := "fnExactMostTotal", fn := fun _ => fun
  | [d1, d2] => { results := [.lit (.bool false)], args := [d1, d2] }
  | _ => none }
def FnExactMostTotalWrongFalsely : Prop := fnExactMostTotalRow.holds Try.pinned (OpenSpec.ofChange fnExactMostTotalWrong)

/- THE SECOND FORM. 'bulk': how many values and letters a reading holds, each counted each time it is reached (what is shared counts as often as it is met; a slice's spare places count too). A statement '..UptoSaid' is the law's where the arguments, and the package variables that the reading takes, are together of bulk at most 1048576: NARROWER than '..Said'. Prove '..Said' where nothing that the law and all that it calls make is longer than what came in: it says more and counts as full. Else prove '..UptoSaid'. A law counts once. -/
mutual
def uptoBulk {H : Type} : DataW H → Nat
  | .lit (.string bytes) => bytes.length + 1
  | .lit _ => 1
  | .nil => 1
  | .ptr d => uptoBulk d + 1
  | .slice elems spare => uptoBulkAll elems + uptoBulkAll spare + 1
  | .agg parts => uptoBulkAll parts + 1
  | .iface _ d => uptoBulk d + 1
  | .map entries => uptoBulkEntries entries + 1
  | .held _ => 1
def uptoBulkAll {H : Type} : List (DataW H) → Nat
  | [] => 0
  | d :: r => uptoBulk d + uptoBulkAll r
def uptoBulkEntries {H : Type} : List (Lit × DataW H) → Nat
  | [] => 0
  | x :: r => uptoBulkEntry x + uptoBulkEntries r
def uptoBulkEntry {H : Type} : Lit × DataW H → Nat
  | (.string bytes, d) => bytes.length + uptoBulk d + 1
  | (_, d) => uptoBulk d + 1
 end
def uptoSmall : (H : Type) → List (DataW H) → Bool := fun _ ds => decide (uptoBulkAll ds ≤ 1048576)
def OpenSpec.upto (s : _root_.Go.ChangeSpec) : _root_.Go.OpenSpec := { _root_.Go.OpenSpec.ofChange s with cond := some uptoSmall }

/-- 'laws.FnExactAreRolls', WHERE WHAT IT READS IS OF BULK AT MOST 1048576: true; the input reads as it did. -/
def fnExactAreRollsUptoRow : OpenClaim := { program := "ytnpnbgohdmonmaa", sum := "c1676f6e36e1c5a13b88c898d73fe56c43e9427f708641378ef73556d2182526", func := "loop.example/g01368/laws.FnExactAreRolls", spec := "fnExactAreRolls", apart := false, narrowed := true }
def FnExactAreRollsUptoSaid : Prop := fnExactAreRollsUptoRow.holds Try.pinned (OpenSpec.upto fnExactAreRollsSpec)

/-- 'laws.FnExactAreAll', WHERE WHAT IT READS IS OF BULK AT MOST 1048576: true; the input reads as it did. -/
def fnExactAreAllUptoRow : OpenClaim := { program := "ytnpnbgohdmonmaa", sum := "c1676f6e36e1c5a13b88c898d73fe56c43e9427f708641378ef73556d2182526", func := "loop.example/g01368/laws.FnExactAreAll", spec := "fnExactAreAll", apart := false, narrowed := true }
def FnExactAreAllUptoSaid : Prop := fnExactAreAllUptoRow.holds Try.pinned (OpenSpec.upto fnExactAreAllSpec)

/-- 'laws.FnExactStandingPins', WHERE WHAT IT READS IS OF BULK AT MOST 1048576: true; the input reads as it did. -/
def fnExactStandingPinsUptoRow : OpenClaim := { program := "ytnpnbgohdmonmaa", sum := "c1676f6e36e1c5a13b88c898d73fe56c43e9427f708641378ef73556d2182526", func := "loop.example/g01368/laws.FnExactStandingPins", spec := "fnExactStandingPins", apart := false, narrowed := true }
def FnExactStandingPinsUptoSaid : Prop := fnExactStandingPinsUptoRow.holds Try.pinned (OpenSpec.upto fnExactStandingPinsSpec)

/-- 'laws.FnExactSparesIn', WHERE WHAT IT READS IS OF BULK AT MOST 1048576: true; the input reads as it did. -/
def fnExactSparesInUptoRow : OpenClaim := { program := "ytnpnbgohdmonmaa", sum := "c1676f6e36e1c5a13b88c898d73fe56c43e9427f708641378ef73556d2182526", func := "loop.example/g01368/laws.FnExactSparesIn", spec := "fnExactSparesIn", apart := false, narrowed := true }
def FnExactSparesInUptoSaid : Prop := fnExactSparesInUptoRow.holds Try.pinned (OpenSpec.upto fnExactSparesInSpec)

/-- 'laws.FnExactStrikesIn', WHERE WHAT IT READS IS OF BULK AT MOST 1048576: true; the input reads as it did. -/
def fnExactStrikesInUptoRow : OpenClaim := { program := "ytnpnbgohdmonmaa", sum := "c1676f6e36e1c5a13b88c898d73fe56c43e9427f708641378ef73556d2182526", func := "loop.example/g01368/laws.FnExactStrikesIn", spec := "fnExactStrikesIn", apart := false, narrowed := true }
def FnExactStrikesInUptoSaid : Prop := fnExactStrikesInUptoRow.holds Try.pinned (OpenSpec.upto fnExactStrikesInSpec)

/-- 'laws.FnExactRollsLeft', WHERE WHAT IT READS IS OF BULK AT MOST 1048576: true; the input reads as it did. -/
def fnExactRollsLeftUptoRow : OpenClaim := { program := "ytnpnbgohdmonmaa", sum := "c1676f6e36e1c5a13b88c898d73fe56c43e9427f708641378ef73556d2182526", func := "loop.example/g01368/laws.FnExactRollsLeft", spec := "fnExactRollsLeft", apart := false, narrowed := true }
def FnExactRollsLeftUptoSaid : Prop := fnExactRollsLeftUptoRow.holds Try.pinned (OpenSpec.upto fnExactRollsLeftSpec)

/-- 'laws.FnExactFramesOfRolls', WHERE WHAT IT READS IS OF BULK AT MOST 1048576: true; the input reads as it did. -/
def fnExactFramesOfRollsUptoRow : OpenClaim := { program := "ytnpnbgohdmonmaa", sum := "c1676f6e36e1c5a13b88c898d73fe56c43e9427f708641378ef73556d2182526", func := "loop.example/g01368/laws.FnExactFramesOfRolls", spec := "fnExactFramesOfRolls", apart := false, narrowed := true }
def FnExactFramesOfRollsUptoSaid : Prop := fnExactFramesOfRollsUptoRow.holds Try.pinned (OpenSpec.upto fnExactFramesOfRollsSpec)

/-- 'laws.FnExactSoFar', WHERE WHAT IT READS IS OF BULK AT MOST 1048576: true; the input reads as it did. -/
def fnExactSoFarUptoRow : OpenClaim := { program := "ytnpnbgohdmonmaa", sum := "c1676f6e36e1c5a13b88c898d73fe56c43e9427f708641378ef73556d2182526", func := "loop.example/g01368/laws.FnExactSoFar", spec := "fnExactSoFar", apart := false, narrowed := true }
def FnExactSoFarUptoSaid : Prop := fnExactSoFarUptoRow.holds Try.pinned (OpenSpec.upto fnExactSoFarSpec)

/-- 'laws.FnExactFrameScores', WHERE WHAT IT READS IS OF BULK AT MOST 1048576: true; the input reads as it did. -/
def fnExactFrameScoresUptoRow : OpenClaim := { program := "ytnpnbgohdmonmaa", sum := "c1676f6e36e1c5a13b88c898d73fe56c43e9427f708641378ef73556d2182526", func := "loop.example/g01368/laws.FnExactFrameScores", spec := "fnExactFrameScores", apart := false, narrowed := true }
def FnExactFrameScoresUptoSaid : Prop := fnExactFrameScoresUptoRow.holds Try.pinned (OpenSpec.upto fnExactFrameScoresSpec)

/-- 'laws.FnExactTotalOf', WHERE WHAT IT READS IS OF BULK AT MOST 1048576: true; the input reads as it did. -/
def fnExactTotalOfUptoRow : OpenClaim := { program := "ytnpnbgohdmonmaa", sum := "c1676f6e36e1c5a13b88c898d73fe56c43e9427f708641378ef73556d2182526", func := "loop.example/g01368/laws.FnExactTotalOf", spec := "fnExactTotalOf", apart := false, narrowed := true }
def FnExactTotalOfUptoSaid : Prop := fnExactTotalOfUptoRow.holds Try.pinned (OpenSpec.upto fnExactTotalOfSpec)

/-- 'laws.FnExactLeastTotal', WHERE WHAT IT READS IS OF BULK AT MOST 1048576: true; the input reads as it did. -/
def fnExactLeastTotalUptoRow : OpenClaim := { program := "ytnpnbgohdmonmaa", sum := "c1676f6e36e1c5a13b88c898d73fe56c43e9427f708641378ef73556d2182526", func := "loop.example/g01368/laws.FnExactLeastTotal", spec := "fnExactLeastTotal", apart := false, narrowed := true }
def FnExactLeastTotalUptoSaid : Prop := fnExactLeastTotalUptoRow.holds Try.pinned (OpenSpec.upto fnExactLeastTotalSpec)

/-- 'laws.FnExactMostTotal', WHERE WHAT IT READS IS OF BULK AT MOST 1048576: true; the input reads as it did. -/
def fnExactMostTotalUptoRow : OpenClaim := { program := "ytnpnbgohdmonmaa", sum := "c1676f6e36e1c5a13b88c898d73fe56c43e9427f708641378ef73556d2182526", func := "loop.example/g01368/laws.FnExactMostTotal", spec := "fnExactMostTotal", apart := false, narrowed := true }
def FnExactMostTotalUptoSaid : Prop := fnExactMostTotalUptoRow.holds Try.pinned (OpenSpec.upto fnExactMostTotalSpec)

end Rows
end Go.Proofs.Ytnpnbgohdmonmaa
