/-
  No cell of these rows narrows 'for every input' (looked for: loops, veiled, ifaces, maps, wideKeys, modest, calm, conditions, laid).
  DERIVED. THE GIVEN ROWS OF THIS SEAT. 6 by the template 'for every input the law returns true; each argument reads behind the call as it read before'; 0 by the template 'total and deterministic' (their statements: YtcpebdjklameeaaTotals.lean).
  GIVEN WITH THE SEED: the statements are not yours to turn. If you find one false, say at which input.
  Laid BY PROGRAM, IN A SANDBOX (cutbox-rows.mjs): the forced cells as the released guide's own fill.sh prints them over the translation 3c3ce085f5334ab9… (all of the seat's roots in one cut). By AI agents, Wed Nov 11 2026. No macro, syntax, notation, axiom, sorry.
-/
import Derived.Test.YtcpebdjklameeaaChecked
import GoSem.Claim
import GoSem.ClaimJoined
import GoSem.ClaimMapViews
import Derived.JoinedTies
import Derived.KernelRfl
namespace Go.Proofs.Ytcpebdjklameeaa
/- THE CELL 'sum', in the pinned program and in every row, IS THE sha256 OF THE DUMP (.gsa) THAT YtcpebdjklameeaaProg.lean LOADS. Nothing in Lean hashes anything: it is a label: what it is worth is what the hold of that sum in a sandbox is worth. -/
noncomputable def Try.pinned : Pinned := { name := "ytcpebdjklameeaa", sum := "3c3ce085f5334ab9c4546016069dbbf1bcd1c23c510cb3c2885486f1188fd653", checked := Try.checked }
namespace Rows
def none {H : Type} : Left H := { results := [], args := [] }

/-- 'laws.FnExactResultOf': WHATEVER THE INPUT: true; the input reads as it did. -/
def fnExactResultOfSpec : ChangeSpec := { name := "fnExactResultOf", fn := fun _ => fun
  | [d1, d2] => { results := [.lit (.bool true)], args := [d1, d2] }
  | _ => none }
def fnExactResultOfRow : OpenClaim := { program := "ytcpebdjklameeaa", sum := "3c3ce085f5334ab9c4546016069dbbf1bcd1c23c510cb3c2885486f1188fd653", func := "loop.example/g01368/laws.FnExactResultOf", spec := "fnExactResultOf", apart := false }
def FnExactResultOfSaid : Prop := fnExactResultOfRow.holds Try.pinned (OpenSpec.ofChange fnExactResultOfSpec)

/-- ITS FALSE NEIGHBOUR: 'it returns false'. Refute it at one input. -/
def fnExactResultOfWrong : ChangeSpec := { name := "fnExactResultOf", fn := fun _ => fun
  | [d1, d2] => { results := [.lit (.bool false)], args := [d1, d2] }
  | _ => none }
def FnExactResultOfWrongFalsely : Prop := fnExactResultOfRow.holds Try.pinned (OpenSpec.ofChange fnExactResultOfWrong)

/-- 'laws.FnExactGreatestLead': WHATEVER THE INPUT: true; the input reads as it did. -/
def fnExactGreatestLeadSpec : ChangeSpec := { name := "fnExactGreatestLead", fn := fun _ => fun
  | [d1, d2] => { results := [.lit (.bool true)], args := [d1, d2] }
  | _ => none }
def fnExactGreatestLeadRow : OpenClaim := { program := "ytcpebdjklameeaa", sum := "3c3ce085f5334ab9c4546016069dbbf1bcd1c23c510cb3c2885486f1188fd653", func := "loop.example/g01368/laws.FnExactGreatestLead", spec := "fnExactGreatestLead", apart := false }
def FnExactGreatestLeadSaid : Prop := fnExactGreatestLeadRow.holds Try.pinned (OpenSpec.ofChange fnExactGreatestLeadSpec)

/-- ITS FALSE NEIGHBOUR: 'it returns false'. Refute it at one input. -/
def fnExactGreatestLeadWrong : ChangeSpec := { name := "fnExactGreatestLead", fn := fun _ => fun
  | [d1, d2] => { results := [.lit (.bool false)], args := [d1, d2] }
  | _ => none }
def FnExactGreatestLeadWrongFalsely : Prop := fnExactGreatestLeadRow.holds Try.pinned (OpenSpec.ofChange fnExactGreatestLeadWrong)

/-- 'laws.FnExactFirstGoals': WHATEVER THE INPUT: true; the input reads as it did. -/
def fnExactFirstGoalsSpec : ChangeSpec := { name := "fnExactFirstGoals", fn := fun _ => fun
  | [d1, d2] => { results := [.lit (.bool true)], args := [d1, d2] }
  | _ => none }
def fnExactFirstGoalsRow : OpenClaim := { program := "ytcpebdjklameeaa", sum := "3c3ce085f5334ab9c4546016069dbbf1bcd1c23c510cb3c2885486f1188fd653", func := "loop.example/g01368/laws.FnExactFirstGoals", spec := "fnExactFirstGoals", unfollowed := true, recurses := true, apart := false }
def FnExactFirstGoalsSaid : Prop := fnExactFirstGoalsRow.holds Try.pinned (OpenSpec.ofChange fnExactFirstGoalsSpec)

/-- ITS FALSE NEIGHBOUR: 'it returns false'. Refute it at one input. -/
def fnExactFirstGoalsWrong : ChangeSpec := { name := "fnExactFirstGoals", fn := fun _ => fun
  | [d1, d2] => { results := [.lit (.bool false)], args := [d1, d2] }
  | _ => none }
def FnExactFirstGoalsWrongFalsely : Prop := fnExactFirstGoalsRow.holds Try.pinned (OpenSpec.ofChange fnExactFirstGoalsWrong)

/-- 'laws.FnExactGoalsAhead': WHATEVER THE INPUT: true; the input reads as it did. -/
def fnExactGoalsAheadSpec : ChangeSpec := { name := "fnExactGoalsAhead", fn := fun _ => fun
  | [d1, d2] => { results := [.lit (.bool true)], args := [d1, d2] }
  | _ => none }
def fnExactGoalsAheadRow : OpenClaim := { program := "ytcpebdjklameeaa", sum := "3c3ce085f5334ab9c4546016069dbbf1bcd1c23c510cb3c2885486f1188fd653", func := "loop.example/g01368/laws.FnExactGoalsAhead", spec := "fnExactGoalsAhead", apart := false }
def FnExactGoalsAheadSaid : Prop := fnExactGoalsAheadRow.holds Try.pinned (OpenSpec.ofChange fnExactGoalsAheadSpec)

/-- ITS FALSE NEIGHBOUR: 'it returns false'. Refute it at one input. -/
def fnExactGoalsAheadWrong : ChangeSpec := { name := "fnExactGoalsAhead", fn := fun _ => fun
  | [d1, d2] => { results := [.lit (.bool false)], args := [d1, d2] }
  | _ => none }
def FnExactGoalsAheadWrongFalsely : Prop := fnExactGoalsAheadRow.holds Try.pinned (OpenSpec.ofChange fnExactGoalsAheadWrong)

/-- 'laws.FnExactScoresOn': WHATEVER THE INPUT: true; the input reads as it did. -/
def fnExactScoresOnSpec : ChangeSpec := { name := "fnExactScoresOn", fn := fun _ => fun
  | [d1, d2] => { results := [.lit (.bool true)], args := [d1, d2] }
  | _ => none }
def fnExactScoresOnRow : OpenClaim := { program := "ytcpebdjklameeaa", sum := "3c3ce085f5334ab9c4546016069dbbf1bcd1c23c510cb3c2885486f1188fd653", func := "loop.example/g01368/laws.FnExactScoresOn", spec := "fnExactScoresOn", apart := false }
def FnExactScoresOnSaid : Prop := fnExactScoresOnRow.holds Try.pinned (OpenSpec.ofChange fnExactScoresOnSpec)

/-- ITS FALSE NEIGHBOUR: 'it returns false'. Refute it at one input. -/
def fnExactScoresOnWrong : ChangeSpec := { name := "fnExactScoresOn", fn := fun _ => fun
  | [d1, d2] => { results := [.lit (.bool false)], args := [d1, d2] }
  | _ => none }
def FnExactScoresOnWrongFalsely : Prop := fnExactScoresOnRow.holds Try.pinned (OpenSpec.ofChange fnExactScoresOnWrong)

/-- 'laws.FnExactLeadTurns': WHATEVER THE INPUT: true; the input reads as it did. -/
def fnExactLeadTurnsSpec : ChangeSpec := { name := "fnExactLeadTurns", fn := fun _ => fun
  | [d1, d2] => { results := [.lit (.bool true)], args := [d1, d2] }
  | _ => none }
def fnExactLeadTurnsRow : OpenClaim := { program := "ytcpebdjklameeaa", sum := "3c3ce085f5334ab9c4546016069dbbf1bcd1c23c510cb3c2885486f1188fd653", func := "loop.example/g01368/laws.FnExactLeadTurns", spec := "fnExactLeadTurns", apart := false }
def FnExactLeadTurnsSaid : Prop := fnExactLeadTurnsRow.holds Try.pinned (OpenSpec.ofChange fnExactLeadTurnsSpec)

/-- ITS FALSE NEIGHBOUR: 'it returns false'. Refute it at one input. -/
def fnExactLeadTurnsWrong : ChangeSpec := { name := "fnExactLeadTurns", fn := fun _ => fun
  | [d1, d2] => { results := [.lit (.bool false)], args := [d1, d2] }
  | _ => none }
def FnExactLeadTurnsWrongFalsely : Prop := fnExactLeadTurnsRow.holds Try.pinned (OpenSpec.ofChange fnExactLeadTurnsWrong)

/- THE SECOND FORM. 'bulk': how many values and letters a reading holds, each counted each time it is reached (what is shared counts as often as it is met; a slice's spare places count too). A statement '..UptoSaid' is the law's where the arguments, and the package variables that the reading takes, are together of bulk at most 1048576: NARROWER than '..Said'. Prove '..Said' where nothing that the law and all that it calls make is longer than what came in: it says more and counts as full. Else prove '..UptoSaid'. A law counts once. -/
mutual
def uptoBulk {H : Type} : DataW H → Nat
  | .lit (.string bytes) => bytes.length + 1
  | .lit _ => 1
  | .nil => 1
  | .ptr d => uptoBulk d + 1
  | .slice elems spare => uptoBulkAll elems + uptoBulkAll spare + 1
  | .agg parts => uptoBulkAll parts + 1
  | .iface _ d => uptoBulk d + 1
  | .map entries => uptoBulkEntries entries + 1
  | .held _ => 1
def uptoBulkAll {H : Type} : List (DataW H) → Nat
  | [] => 0
  | d :: r => uptoBulk d + uptoBulkAll r
def uptoBulkEntries {H : Type} : List (Lit × DataW H) → Nat
  | [] => 0
  | x :: r => uptoBulkEntry x + uptoBulkEntries r
def uptoBulkEntry {H : Type} : Lit × DataW H → Nat
  | (.string bytes, d) => bytes.length + uptoBulk d + 1
  | (_, d) => uptoBulk d + 1
 end
def uptoSmall : (H : Type) → List (DataW H) → Bool := fun _ ds => decide (uptoBulkAll ds ≤ 1048576)
def OpenSpec.upto (s : _root_.Go.ChangeSpec) : _root_.Go.OpenSpec := { _root_.Go.OpenSpec.ofChange s with cond := some uptoSmall }

/-- 'laws.FnExactResultOf', WHERE WHAT IT READS IS OF BULK AT MOST 1048576: true; the input reads as it did. -/
def fnExactResultOfUptoRow : OpenClaim := { program := "ytcpebdjklameeaa", sum := "3c3ce085f5334ab9c4546016069dbbf1bcd1c23c510cb3c2885486f1188fd653", func := "loop.example/g01368/laws.FnExactResultOf", spec := "fnExactResultOf", apart := false, narrowed := true }
def FnExactResultOfUptoSaid : Prop := fnExactResultOfUptoRow.holds Try.pinned (OpenSpec.upto fnExactResultOfSpec)

/-- 'laws.FnExactGreatestLead', WHERE WHAT IT READS IS OF BULK AT MOST 1048576: true; the input reads as it did. -/
def fnExactGreatestLeadUptoRow : OpenClaim := { program := "ytcpebdjklameeaa", sum := "3c3ce085f5334ab9c4546016069dbbf1bcd1c23c510cb3c2885486f1188fd653", func := "loop.example/g01368/laws.FnExactGreatestLead", spec := "fnExactGreatestLead", apart := false, narrowed := true }
def FnExactGreatestLeadUptoSaid : Prop := fnExactGreatestLeadUptoRow.holds Try.pinned (OpenSpec.upto fnExactGreatestLeadSpec)

/-- 'laws.FnExactFirstGoals', WHERE WHAT IT READS IS OF BULK AT MOST 1048576: true; the input reads as it did. -/
def fnExactFirstGoalsUptoRow : OpenClaim := { program := "ytcpebdjklameeaa", sum := "3c3ce085f5334ab9c4546016069dbbf1bcd1c23c510cb3c2885486f1188fd653", func := "loop.example/g01368/laws.FnExactFirstGoals", spec := "fnExactFirstGoals", unfollowed := true, recurses := true, apart := false, narrowed := true }
def FnExactFirstGoalsUptoSaid : Prop := fnExactFirstGoalsUptoRow.holds Try.pinned (OpenSpec.upto fnExactFirstGoalsSpec)

/-- 'laws.FnExactGoalsAhead', WHERE WHAT IT READS IS OF BULK AT MOST 1048576: true; the input reads as it did. -/
def fnExactGoalsAheadUptoRow : OpenClaim := { program := "ytcpebdjklameeaa", sum := "3c3ce085f5334ab9c4546016069dbbf1bcd1c23c510cb3c2885486f1188fd653", func := "loop.example/g01368/laws.FnExactGoalsAhead", spec := "fnExactGoalsAhead", apart := false, narrowed := true }
def FnExactGoalsAheadUptoSaid : Prop := fnExactGoalsAheadUptoRow.holds Try.pinned (OpenSpec.upto fnExactGoalsAheadSpec)

/-- 'laws.FnExactScoresOn', WHERE WHAT IT READS IS OF BULK AT MOST 1048576: true; the input reads as it did. -/
def fnExactScoresOnUptoRow : OpenClaim := { program := "ytcpebdjklameeaa", sum := "3c3ce085f5334ab9c4546016069dbbf1bcd1c23c510cb3c2885486f1188fd653", func := "loop.example/g01368/laws.FnExactScoresOn", spec := "fnExactScoresOn", apart := false, narrowed := true }
def FnExactScoresOnUptoSaid : Prop := fnExactScoresOnUptoRow.holds Try.pinned (OpenSpec.upto fnExactScoresOnSpec)

/-- 'laws.FnExactLeadTurns', WHERE WHAT IT READS IS OF BULK AT MOST 1048576: true; the input reads as it did. -/
def fnExactLeadTurnsUptoRow : OpenClaim := { program := "ytcpebdjklameeaa", sum := "3c3ce085f5334ab9c4546016069dbbf1bcd1c23c510cb3c2885486f1188fd653", func := "loop.example/g01368/laws.FnExactLeadTurns", spec := "fnExactLeadTurns", apart := false, narrowed := true }
def FnExactLeadTurnsUptoSaid : Prop := fnExactLeadTurnsUptoRow.holds Try.pinned (OpenSpec.upto fnExactLeadTurnsSpec)

end Rows
end Go.Proofs.Ytcpebdjklameeaa
