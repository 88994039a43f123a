/-
  No cell of these rows narrows 'for every input' (looked for: loops, veiled, ifaces, maps, wideKeys, modest, calm, conditions, laid).
  DERIVED. THE GIVEN ROWS OF THIS SEAT. 4 by the template 'for every input the law returns true; each argument reads behind the call as it read before'; 0 by the template 'total and deterministic' (their statements: YtdioconinnpmmaaTotals.lean).
  GIVEN WITH THE SEED: the statements are not yours to turn. If you find one false, say at which input.
  Laid BY PROGRAM, IN A SANDBOX (cutbox-rows.mjs): the forced cells as the released guide's own fill.sh prints them over the translation aae71f32426fc87c… (all of the seat's roots in one cut). By AI agents, Wed Nov 11 2026. No macro, syntax, notation, axiom, sorry.
-/
import Derived.Test.YtdioconinnpmmaaChecked
import GoSem.Claim
import GoSem.ClaimJoined
import GoSem.ClaimMapViews
import Derived.JoinedTies
import Derived.KernelRfl
namespace Go.Proofs.Ytdioconinnpmmaa
/- THE CELL 'sum', in the pinned program and in every row, IS THE sha256 OF THE DUMP (.gsa) THAT YtdioconinnpmmaaProg.lean LOADS. Nothing in Lean hashes anything: it is a label: what it is worth is what the hold of that sum in a sandbox is worth. -/
noncomputable def Try.pinned : Pinned := { name := "ytdioconinnpmmaa", sum := "aae71f32426fc87cb4d5ac2a618fe67ae1fc96870db146231a20f756428fe63d", checked := Try.checked }
namespace Rows
def none {H : Type} : Left H := { results := [], args := [] }

/-- 'laws.FnExactCountGamesOf': WHATEVER THE INPUT: true; the input reads as it did. -/
def fnExactCountGamesOfSpec : ChangeSpec := { name := "fnExactCountGamesOf", fn := fun _ => fun
  | [d1, d2] => { results := [.lit (.bool true)], args := [d1, d2] }
  | _ => none }
def fnExactCountGamesOfRow : OpenClaim := { program := "ytdioconinnpmmaa", sum := "aae71f32426fc87cb4d5ac2a618fe67ae1fc96870db146231a20f756428fe63d", func := "loop.example/g01368/laws.FnExactCountGamesOf", spec := "fnExactCountGamesOf", unfollowed := true, recurses := true, plainKeys := false, apart := false }
def FnExactCountGamesOfSaid : Prop := fnExactCountGamesOfRow.holds Try.pinned (OpenSpec.ofChange fnExactCountGamesOfSpec)

/-- ITS FALSE NEIGHBOUR: 'it returns false'. Refute it at one input. -/
def fnExactCountGamesOfWrong : ChangeSpec := { name := "fnExactCountGamesOf", fn := fun _ => fun
  | [d1, d2] => { results := [.lit (.bool false)], args := [d1, d2] }
  | _ => none }
def FnExactCountGamesOfWrongFalsely : Prop := fnExactCountGamesOfRow.holds Try.pinned (OpenSpec.ofChange fnExactCountGamesOfWrong)

/-- 'laws.FnExactMostGames': WHATEVER THE INPUT: true; the input reads as it did. -/
def fnExactMostGamesSpec : ChangeSpec := { name := "fnExactMostGames", fn := fun _ => fun
  | [d] => { results := [.lit (.bool true)], args := [d] }
  | _ => none }
def fnExactMostGamesRow : OpenClaim := { program := "ytdioconinnpmmaa", sum := "aae71f32426fc87cb4d5ac2a618fe67ae1fc96870db146231a20f756428fe63d", func := "loop.example/g01368/laws.FnExactMostGames", spec := "fnExactMostGames", unfollowed := true, recurses := true, plainKeys := false, apart := false }
def FnExactMostGamesSaid : Prop := fnExactMostGamesRow.holds Try.pinned (OpenSpec.ofChange fnExactMostGamesSpec)

/-- ITS FALSE NEIGHBOUR: 'it returns false'. Refute it at one input. -/
def fnExactMostGamesWrong : ChangeSpec := { name := "fnExactMostGames", fn := fun _ => fun
  | [d] => { results := [.lit (.bool false)], args := [d] }
  | _ => none }
def FnExactMostGamesWrongFalsely : Prop := fnExactMostGamesRow.holds Try.pinned (OpenSpec.ofChange fnExactMostGamesWrong)

/-- 'laws.FnExactBestRoll': WHATEVER THE INPUT: true; the input reads as it did. -/
def fnExactBestRollSpec : ChangeSpec := { name := "fnExactBestRoll", fn := fun _ => fun
  | [d1, d2, d3] => { results := [.lit (.bool true)], args := [d1, d2, d3] }
  | _ => none }
def fnExactBestRollRow : OpenClaim := { program := "ytdioconinnpmmaa", sum := "aae71f32426fc87cb4d5ac2a618fe67ae1fc96870db146231a20f756428fe63d", func := "loop.example/g01368/laws.FnExactBestRoll", spec := "fnExactBestRoll", plainKeys := false, apart := false }
def FnExactBestRollSaid : Prop := fnExactBestRollRow.holds Try.pinned (OpenSpec.ofChange fnExactBestRollSpec)

/-- ITS FALSE NEIGHBOUR: 'it returns false'. Refute it at one input. -/
def fnExactBestRollWrong : ChangeSpec := { name := "fnExactBestRoll", fn := fun _ => fun
  | [d1, d2, d3] => { results := [.lit (.bool false)], args := [d1, d2, d3] }
  | _ => none }
def FnExactBestRollWrongFalsely : Prop := fnExactBestRollRow.holds Try.pinned (OpenSpec.ofChange fnExactBestRollWrong)

/-- 'laws.FnExactFirstGameOf': WHATEVER THE INPUT: true; the input reads as it did. -/
def fnExactFirstGameOfSpec : ChangeSpec := { name := "fnExactFirstGameOf", fn := fun _ => fun
  | [d1, d2] => { results := [.lit (.bool true)], args := [d1, d2] }
  | _ => none }
def fnExactFirstGameOfRow : OpenClaim := { program := "ytdioconinnpmmaa", sum := "aae71f32426fc87cb4d5ac2a618fe67ae1fc96870db146231a20f756428fe63d", func := "loop.example/g01368/laws.FnExactFirstGameOf", spec := "fnExactFirstGameOf", unfollowed := true, recurses := true, plainKeys := false, apart := false }
def FnExactFirstGameOfSaid : Prop := fnExactFirstGameOfRow.holds Try.pinned (OpenSpec.ofChange fnExactFirstGameOfSpec)

/-- ITS FALSE NEIGHBOUR: 'it returns false'. Refute it at one input. -/
def fnExactFirstGameOfWrong : ChangeSpec := { name := "fnExactFirstGameOf", fn := fun _ => fun
  | [d1, d2] => { results := [.lit (.bool false)], args := [d1, d2] }
  | _ => none }
def FnExactFirstGameOfWrongFalsely : Prop := fnExactFirstGameOfRow.holds Try.pinned (OpenSpec.ofChange fnExactFirstGameOfWrong)

/- THE SECOND FORM. 'bulk': how many values and letters a reading holds, each counted each time it is reached (what is shared counts as often as it is met; a slice's spare places count too). A statement '..UptoSaid' is the law's where the arguments, and the package variables that the reading takes, are together of bulk at most 1048576: NARROWER than '..Said'. Prove '..Said' where nothing that the law and all that it calls make is longer than what came in: it says more and counts as full. Else prove '..UptoSaid'. A law counts once. -/
mutual
def uptoBulk {H : Type} : DataW H → Nat
  | .lit (.string bytes) => bytes.length + 1
  | .lit _ => 1
  | .nil => 1
  | .ptr d => uptoBulk d + 1
  | .slice elems spare => uptoBulkAll elems + uptoBulkAll spare + 1
  | .agg parts => uptoBulkAll parts + 1
  | .iface _ d => uptoBulk d + 1
  | .map entries => uptoBulkEntries entries + 1
  | .held _ => 1
def uptoBulkAll {H : Type} : List (DataW H) → Nat
  | [] => 0
  | d :: r => uptoBulk d + uptoBulkAll r
def uptoBulkEntries {H : Type} : List (Lit × DataW H) → Nat
  | [] => 0
  | x :: r => uptoBulkEntry x + uptoBulkEntries r
def uptoBulkEntry {H : Type} : Lit × DataW H → Nat
  | (.string bytes, d) => bytes.length + uptoBulk d + 1
  | (_, d) => uptoBulk d + 1
 end
def uptoSmall : (H : Type) → List (DataW H) → Bool := fun _ ds => decide (uptoBulkAll ds ≤ 1048576)
def OpenSpec.upto (s : _root_.Go.ChangeSpec) : _root_.Go.OpenSpec := { _root_.Go.OpenSpec.ofChange s with cond := some uptoSmall }

/-- 'laws.FnExactCountGamesOf', WHERE WHAT IT READS IS OF BULK AT MOST 1048576: true; the input reads as it did. -/
def fnExactCountGamesOfUptoRow : OpenClaim := { program := "ytdioconinnpmmaa", sum := "aae71f32426fc87cb4d5ac2a618fe67ae1fc96870db146231a20f756428fe63d", func := "loop.example/g01368/laws.FnExactCountGamesOf", spec := "fnExactCountGamesOf", unfollowed := true, recurses := true, plainKeys := false, apart := false, narrowed := true }
def FnExactCountGamesOfUptoSaid : Prop := fnExactCountGamesOfUptoRow.holds Try.pinned (OpenSpec.upto fnExactCountGamesOfSpec)

/-- 'laws.FnExactMostGames', WHERE WHAT IT READS IS OF BULK AT MOST 1048576: true; the input reads as it did. -/
def fnExactMostGamesUptoRow : OpenClaim := { program := "ytdioconinnpmmaa", sum := "aae71f32426fc87cb4d5ac2a618fe67ae1fc96870db146231a20f756428fe63d", func := "loop.example/g01368/laws.FnExactMostGames", spec := "fnExactMostGames", unfollowed := true, recurses := true, plainKeys := false, apart := false, narrowed := true }
def FnExactMostGamesUptoSaid : Prop := fnExactMostGamesUptoRow.holds Try.pinned (OpenSpec.upto fnExactMostGamesSpec)

/-- 'laws.FnExactBestRoll', WHERE WHAT IT READS IS OF BULK AT MOST 1048576: true; the input reads as it did. -/
def fnExactBestRollUptoRow : OpenClaim := { program := "ytdioconinnpmmaa", sum := "aae71f32426fc87cb4d5ac2a618fe67ae1fc96870db146231a20f756428fe63d", func := "loop.example/g01368/laws.FnExactBestRoll", spec := "fnExactBestRoll", plainKeys := false, apart := false, narrowed := true }
def FnExactBestRollUptoSaid : Prop := fnExactBestRollUptoRow.holds Try.pinned (OpenSpec.upto fnExactBestRollSpec)

/-- 'laws.FnExactFirstGameOf', WHERE WHAT IT READS IS OF BULK AT MOST 1048576: true; the input reads as it did. -/
def fnExactFirstGameOfUptoRow : OpenClaim := { program := "ytdioconinnpmmaa", sum := "aae71f32426fc87cb4d5ac2a618fe67ae1fc96870db146231a20f756428fe63d", func := "loop.example/g01368/laws.FnExactFirstGameOf", spec := "fnExactFirstGameOf", unfollowed := true, recurses := true, plainKeys := false, apart := false, narrowed := true }
def FnExactFirstGameOfUptoSaid : Prop := fnExactFirstGameOfUptoRow.holds Try.pinned (OpenSpec.upto fnExactFirstGameOfSpec)

end Rows
end Go.Proofs.Ytdioconinnpmmaa
