/-
  DERIVED. GIVEN WITH THE SEED: THE CARDS: each row of YtcmlmjgoidpabaaGreatDoorRows.lean that lists a variable, with what it lists TIED to the program's text (the seventh form; the later family's looks); each row that meets fmt, with fmt's text TOLD by the authors' own Lean function (tested against real Go, not proved from fmt's source: count such statements apart). THE CARD IS WHAT COUNTS. Prove the row's statement (the work); the ties are given (YtcmlmjgoidpabaaGreatDoorTie.lean); close each card by the builder's one call (the guide's Derived/Test/ToyasCard.lean, 'card_holds'). Laid BY PROGRAM, IN A SANDBOX (cutbox-door.mjs). By AI agents, Wed Nov 11 2026. No macro, syntax, notation, axiom, sorry.
-/
import Derived.Test.YtcmlmjgoidpabaaGreatDoorRows
import GoSem.ClaimSeven
namespace Go.Proofs.YtcmlmjgoidpabaaGreatDoor
namespace Rows

/-- THE TIED CARD OF 'laws.FnFramesPotted'. -/
def fnFramesPottedCard : Claim7 := { stood := { row := fnFramesPottedRow, standIns := [], harness := (true, "06329235a09a2f6d0ea948433ee1d71be2de5fc1cb67156e36d6733b235ad9ed"), looks := false }, kinds := [], alts := [], laidByText := true, laidKinds := [.data, .data, .data, .data, .pinned], laidTests := true, laidLooks := .later }
def FnFramesPottedCardSaid : Prop := Claim7.holds Tryz.pinned (.plain (OpenSpec.ofChange fnFramesPottedSpec)) fnFramesPottedCard

/-- THE TIED CARD OF 'laws.FnDartsPlayed'. -/
def fnDartsPlayedCard : Claim7 := { stood := { row := fnDartsPlayedRow, standIns := [], harness := (true, "06329235a09a2f6d0ea948433ee1d71be2de5fc1cb67156e36d6733b235ad9ed"), looks := false }, kinds := [], alts := [], laidByText := true, laidKinds := [.data, .data, .data, .data, .pinned], laidTests := true, laidLooks := .later }
def FnDartsPlayedCardSaid : Prop := Claim7.holds Tryz.pinned (.plain (OpenSpec.ofChange fnDartsPlayedSpec)) fnDartsPlayedCard

/-- THE SECOND FORM's CARD OF 'laws.FnFramesPotted'. -/
def fnFramesPottedUptoCard : Claim7 := { stood := { row := fnFramesPottedUptoRow, standIns := [], harness := (true, "06329235a09a2f6d0ea948433ee1d71be2de5fc1cb67156e36d6733b235ad9ed"), looks := false }, kinds := [], alts := [], laidByText := true, laidKinds := [.data, .data, .data, .data, .pinned], laidTests := true, laidLooks := .later }
def FnFramesPottedUptoCardSaid : Prop := Claim7.holds Tryz.pinned (.plain (OpenSpec.upto fnFramesPottedSpec)) fnFramesPottedUptoCard

/-- THE SECOND FORM's CARD OF 'laws.FnDartsPlayed'. -/
def fnDartsPlayedUptoCard : Claim7 := { stood := { row := fnDartsPlayedUptoRow, standIns := [], harness := (true, "06329235a09a2f6d0ea948433ee1d71be2de5fc1cb67156e36d6733b235ad9ed"), looks := false }, kinds := [], alts := [], laidByText := true, laidKinds := [.data, .data, .data, .data, .pinned], laidTests := true, laidLooks := .later }
def FnDartsPlayedUptoCardSaid : Prop := Claim7.holds Tryz.pinned (.plain (OpenSpec.upto fnDartsPlayedSpec)) fnDartsPlayedUptoCard
end Rows
end Go.Proofs.YtcmlmjgoidpabaaGreatDoor
