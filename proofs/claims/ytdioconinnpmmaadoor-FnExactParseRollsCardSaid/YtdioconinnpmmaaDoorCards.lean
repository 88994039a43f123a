/-
  DERIVED. GIVEN WITH THE SEED: THE CARDS: each row of YtdioconinnpmmaaDoorRows.lean that lists a variable, with what it lists TIED to the program's text (the seventh form; the later family's looks); each row that meets fmt, with fmt's text TOLD by the authors' own Lean function (tested against real Go, not proved from fmt's source: count such statements apart). THE CARD IS WHAT COUNTS. Prove the row's statement (the work); the ties are given (YtdioconinnpmmaaDoorTie.lean); close each card by the builder's one call (the guide's Derived/Test/ToyasCard.lean, 'card_holds'). Laid BY PROGRAM, IN A SANDBOX (cutbox-door.mjs). By AI agents, Wed Nov 11 2026. No macro, syntax, notation, axiom, sorry.
-/
import Derived.Test.YtdioconinnpmmaaDoorRows
import GoSem.ClaimSeven
namespace Go.Proofs.YtdioconinnpmmaaDoor
namespace Rows

/-- THE TIED CARD OF 'laws.FnExactParseRolls'. -/
def fnExactParseRollsCard : Claim7 := { stood := { row := fnExactParseRollsRow, standIns := [], harness := (true, "63bcbbd790977fc70f90a6c42dfaf66697e75e8be96b6562c40177c194a0440a"), looks := false }, kinds := [], alts := [], laidByText := true, laidKinds := [.data, .data, .data], laidTests := true, laidLooks := .later }
def FnExactParseRollsCardSaid : Prop := Claim7.holds Tryd.pinned (.plain (OpenSpec.ofChange fnExactParseRollsSpec)) fnExactParseRollsCard

/-- THE TIED CARD OF 'laws.FnExactRollsText'. -/
def fnExactRollsTextCard : Claim7 := { stood := { row := fnExactRollsTextRow, standIns := [], harness := (true, "63bcbbd790977fc70f90a6c42dfaf66697e75e8be96b6562c40177c194a0440a"), looks := false }, kinds := [], alts := [], laidByText := true, laidKinds := [.data, .data, .data], laidTests := true, laidLooks := .later }
def FnExactRollsTextCardSaid : Prop := Claim7.holds Tryd.pinned (.plain (OpenSpec.ofChange fnExactRollsTextSpec)) fnExactRollsTextCard

/-- THE SECOND FORM's CARD OF 'laws.FnExactParseRolls'. -/
def fnExactParseRollsUptoCard : Claim7 := { stood := { row := fnExactParseRollsUptoRow, standIns := [], harness := (true, "63bcbbd790977fc70f90a6c42dfaf66697e75e8be96b6562c40177c194a0440a"), looks := false }, kinds := [], alts := [], laidByText := true, laidKinds := [.data, .data, .data], laidTests := true, laidLooks := .later }
def FnExactParseRollsUptoCardSaid : Prop := Claim7.holds Tryd.pinned (.plain (OpenSpec.upto fnExactParseRollsSpec)) fnExactParseRollsUptoCard

/-- THE SECOND FORM's CARD OF 'laws.FnExactRollsText'. -/
def fnExactRollsTextUptoCard : Claim7 := { stood := { row := fnExactRollsTextUptoRow, standIns := [], harness := (true, "63bcbbd790977fc70f90a6c42dfaf66697e75e8be96b6562c40177c194a0440a"), looks := false }, kinds := [], alts := [], laidByText := true, laidKinds := [.data, .data, .data], laidTests := true, laidLooks := .later }
def FnExactRollsTextUptoCardSaid : Prop := Claim7.holds Tryd.pinned (.plain (OpenSpec.upto fnExactRollsTextSpec)) fnExactRollsTextUptoCard
end Rows
end Go.Proofs.YtdioconinnpmmaaDoor
