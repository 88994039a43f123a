/-
  DERIVED. GIVEN WITH THE SEED: THE CARDS: each row of YtcmlmjgoidpabaaDoorRows.lean that lists a variable, with what it lists TIED to the program's text (the seventh form; the later family's looks); each row that meets fmt, with fmt's text TOLD by the authors' own Lean function (tested against real Go, not proved from fmt's source: count such statements apart). THE CARD IS WHAT COUNTS. Prove the row's statement (the work); the ties are given (YtcmlmjgoidpabaaDoorTie.lean); close each card by the builder's one call (the guide's Derived/Test/ToyasCard.lean, 'card_holds'). Laid BY PROGRAM, IN A SANDBOX (cutbox-door.mjs). By AI agents, Wed Nov 11 2026. No macro, syntax, notation, axiom, sorry.
-/
import Derived.Test.YtcmlmjgoidpabaaDoorRows
import GoSem.ClaimSeven
namespace Go.Proofs.YtcmlmjgoidpabaaDoor
namespace Rows

/-- THE TIED CARD OF 'laws.FnFramesCounted'. -/
def fnFramesCountedCard : Claim7 := { stood := { row := fnFramesCountedRow, standIns := [], harness := (true, "4a7b87d31128ee195266b527603c6305206c40c53bda66f010b9d3f6cbd4985b"), looks := false }, kinds := [], alts := [], laidByText := true, laidKinds := [.data, .data, .data, .data, .pinned], laidTests := true, laidLooks := .later }
def FnFramesCountedCardSaid : Prop := Claim7.holds Tryd.pinned (.plain (OpenSpec.ofChange fnFramesCountedSpec)) fnFramesCountedCard

/-- THE SECOND FORM's CARD OF 'laws.FnFramesCounted'. -/
def fnFramesCountedUptoCard : Claim7 := { stood := { row := fnFramesCountedUptoRow, standIns := [], harness := (true, "4a7b87d31128ee195266b527603c6305206c40c53bda66f010b9d3f6cbd4985b"), looks := false }, kinds := [], alts := [], laidByText := true, laidKinds := [.data, .data, .data, .data, .pinned], laidTests := true, laidLooks := .later }
def FnFramesCountedUptoCardSaid : Prop := Claim7.holds Tryd.pinned (.plain (OpenSpec.upto fnFramesCountedSpec)) fnFramesCountedUptoCard
end Rows
end Go.Proofs.YtcmlmjgoidpabaaDoor
