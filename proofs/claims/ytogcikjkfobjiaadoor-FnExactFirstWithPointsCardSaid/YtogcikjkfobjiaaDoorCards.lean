/-
  DERIVED. GIVEN WITH THE SEED: THE CARDS: each row of YtogcikjkfobjiaaDoorRows.lean that lists a variable, with what it lists TIED to the program's text (the seventh form; the later family's looks); each row that meets fmt, with fmt's text TOLD by the authors' own Lean function (tested against real Go, not proved from fmt's source: count such statements apart). THE CARD IS WHAT COUNTS. Prove the row's statement (the work); the ties are given (YtogcikjkfobjiaaDoorTie.lean); close each card by the builder's one call (the guide's Derived/Test/ToyasCard.lean, 'card_holds'). Laid BY PROGRAM, IN A SANDBOX (cutbox-door.mjs). By AI agents, Wed Nov 11 2026. No macro, syntax, notation, axiom, sorry.
-/
import Derived.Test.YtogcikjkfobjiaaDoorRows
import GoSem.ClaimSeven
namespace Go.Proofs.YtogcikjkfobjiaaDoor
namespace Rows

/-- THE TIED CARD OF 'laws.FnExactLeastBreak'. -/
def fnExactLeastBreakCard : Claim7 := { stood := { row := fnExactLeastBreakRow, standIns := [], harness := (true, "617e67de5a024da9749170b26c813dff3dd5c113510c31085b13ea886daf6b19"), looks := false }, kinds := [], alts := [], laidByText := true, laidKinds := [.data, .data, .data], laidTests := true, laidLooks := .later }
def FnExactLeastBreakCardSaid : Prop := Claim7.holds Tryd.pinned (.plain (OpenSpec.ofChange fnExactLeastBreakSpec)) fnExactLeastBreakCard

/-- THE TIED CARD OF 'laws.FnExactHighestBreak'. -/
def fnExactHighestBreakCard : Claim7 := { stood := { row := fnExactHighestBreakRow, standIns := [], harness := (true, "617e67de5a024da9749170b26c813dff3dd5c113510c31085b13ea886daf6b19"), looks := false }, kinds := [], alts := [], laidByText := true, laidKinds := [.data, .data, .data], laidTests := true, laidLooks := .later }
def FnExactHighestBreakCardSaid : Prop := Claim7.holds Tryd.pinned (.plain (OpenSpec.ofChange fnExactHighestBreakSpec)) fnExactHighestBreakCard

/-- THE TIED CARD OF 'laws.FnExactPointsLeft'. -/
def fnExactPointsLeftCard : Claim7 := { stood := { row := fnExactPointsLeftRow, standIns := [], harness := (true, "617e67de5a024da9749170b26c813dff3dd5c113510c31085b13ea886daf6b19"), looks := false }, kinds := [], alts := [], laidByText := true, laidKinds := [.data, .data, .data], laidTests := true, laidLooks := .later }
def FnExactPointsLeftCardSaid : Prop := Claim7.holds Tryd.pinned (.plain (OpenSpec.ofChange fnExactPointsLeftSpec)) fnExactPointsLeftCard

/-- THE TIED CARD OF 'laws.FnExactCanStillWin'. -/
def fnExactCanStillWinCard : Claim7 := { stood := { row := fnExactCanStillWinRow, standIns := [], harness := (true, "617e67de5a024da9749170b26c813dff3dd5c113510c31085b13ea886daf6b19"), looks := false }, kinds := [], alts := [], laidByText := true, laidKinds := [.data, .data, .data], laidTests := true, laidLooks := .later }
def FnExactCanStillWinCardSaid : Prop := Claim7.holds Tryd.pinned (.plain (OpenSpec.ofChange fnExactCanStillWinSpec)) fnExactCanStillWinCard

/-- THE TIED CARD OF 'laws.FnExactFoulsNeeded'. -/
def fnExactFoulsNeededCard : Claim7 := { stood := { row := fnExactFoulsNeededRow, standIns := [], harness := (true, "617e67de5a024da9749170b26c813dff3dd5c113510c31085b13ea886daf6b19"), looks := false }, kinds := [], alts := [], laidByText := true, laidKinds := [.data, .data, .data], laidTests := true, laidLooks := .later }
def FnExactFoulsNeededCardSaid : Prop := Claim7.holds Tryd.pinned (.plain (OpenSpec.ofChange fnExactFoulsNeededSpec)) fnExactFoulsNeededCard

/-- THE TIED CARD OF 'laws.FnExactCountByPoints'. -/
def fnExactCountByPointsCard : Claim7 := { stood := { row := fnExactCountByPointsRow, standIns := [], harness := (true, "617e67de5a024da9749170b26c813dff3dd5c113510c31085b13ea886daf6b19"), looks := false }, kinds := [], alts := [], laidByText := true, laidKinds := [.data, .data, .data], laidTests := true, laidLooks := .later }
def FnExactCountByPointsCardSaid : Prop := Claim7.holds Tryd.pinned (.plain (OpenSpec.ofChange fnExactCountByPointsSpec)) fnExactCountByPointsCard

/-- THE TIED CARD OF 'laws.FnExactFirstWithPoints'. -/
def fnExactFirstWithPointsCard : Claim7 := { stood := { row := fnExactFirstWithPointsRow, standIns := [], harness := (true, "617e67de5a024da9749170b26c813dff3dd5c113510c31085b13ea886daf6b19"), looks := false }, kinds := [], alts := [], laidByText := true, laidKinds := [.data, .data, .data], laidTests := true, laidLooks := .later }
def FnExactFirstWithPointsCardSaid : Prop := Claim7.holds Tryd.pinned (.plain (OpenSpec.ofChange fnExactFirstWithPointsSpec)) fnExactFirstWithPointsCard

/-- THE TIED CARD OF 'laws.FnExactPotBall'. -/
def fnExactPotBallCard : Claim7 := { stood := { row := fnExactPotBallRow, standIns := [], harness := (true, "617e67de5a024da9749170b26c813dff3dd5c113510c31085b13ea886daf6b19"), looks := false }, kinds := [], alts := [], laidByText := true, laidKinds := [.data, .data, .data], laidTests := true, laidLooks := .later }
def FnExactPotBallCardSaid : Prop := Claim7.holds Tryd.pinned (.plain (OpenSpec.ofChange fnExactPotBallSpec)) fnExactPotBallCard

/-- THE TIED CARD OF 'laws.FnExactIsBreak'. -/
def fnExactIsBreakCard : Claim7 := { stood := { row := fnExactIsBreakRow, standIns := [], harness := (true, "617e67de5a024da9749170b26c813dff3dd5c113510c31085b13ea886daf6b19"), looks := false }, kinds := [], alts := [], laidByText := true, laidKinds := [.data, .data, .data], laidTests := true, laidLooks := .later }
def FnExactIsBreakCardSaid : Prop := Claim7.holds Tryd.pinned (.plain (OpenSpec.ofChange fnExactIsBreakSpec)) fnExactIsBreakCard

/-- THE TIED CARD OF 'laws.FnExactFrameAfter'. -/
def fnExactFrameAfterCard : Claim7 := { stood := { row := fnExactFrameAfterRow, standIns := [], harness := (true, "617e67de5a024da9749170b26c813dff3dd5c113510c31085b13ea886daf6b19"), looks := false }, kinds := [], alts := [], laidByText := true, laidKinds := [.data, .data, .data], laidTests := true, laidLooks := .later }
def FnExactFrameAfterCardSaid : Prop := Claim7.holds Tryd.pinned (.plain (OpenSpec.ofChange fnExactFrameAfterSpec)) fnExactFrameAfterCard

/-- THE TIED CARD OF 'laws.FnExactPlayFrame'. -/
def fnExactPlayFrameCard : Claim7 := { stood := { row := fnExactPlayFrameRow, standIns := [], harness := (true, "617e67de5a024da9749170b26c813dff3dd5c113510c31085b13ea886daf6b19"), looks := false }, kinds := [], alts := [], laidByText := true, laidKinds := [.data, .data, .data, .data, .pinned], laidTests := true, laidLooks := .later }
def FnExactPlayFrameCardSaid : Prop := Claim7.holds Tryd.pinned (.plain (OpenSpec.ofChange fnExactPlayFrameSpec)) fnExactPlayFrameCard

/-- THE SECOND FORM's CARD OF 'laws.FnExactLeastBreak'. -/
def fnExactLeastBreakUptoCard : Claim7 := { stood := { row := fnExactLeastBreakUptoRow, standIns := [], harness := (true, "617e67de5a024da9749170b26c813dff3dd5c113510c31085b13ea886daf6b19"), looks := false }, kinds := [], alts := [], laidByText := true, laidKinds := [.data, .data, .data], laidTests := true, laidLooks := .later }
def FnExactLeastBreakUptoCardSaid : Prop := Claim7.holds Tryd.pinned (.plain (OpenSpec.upto fnExactLeastBreakSpec)) fnExactLeastBreakUptoCard

/-- THE SECOND FORM's CARD OF 'laws.FnExactHighestBreak'. -/
def fnExactHighestBreakUptoCard : Claim7 := { stood := { row := fnExactHighestBreakUptoRow, standIns := [], harness := (true, "617e67de5a024da9749170b26c813dff3dd5c113510c31085b13ea886daf6b19"), looks := false }, kinds := [], alts := [], laidByText := true, laidKinds := [.data, .data, .data], laidTests := true, laidLooks := .later }
def FnExactHighestBreakUptoCardSaid : Prop := Claim7.holds Tryd.pinned (.plain (OpenSpec.upto fnExactHighestBreakSpec)) fnExactHighestBreakUptoCard

/-- THE SECOND FORM's CARD OF 'laws.FnExactPointsLeft'. -/
def fnExactPointsLeftUptoCard : Claim7 := { stood := { row := fnExactPointsLeftUptoRow, standIns := [], harness := (true, "617e67de5a024da9749170b26c813dff3dd5c113510c31085b13ea886daf6b19"), looks := false }, kinds := [], alts := [], laidByText := true, laidKinds := [.data, .data, .data], laidTests := true, laidLooks := .later }
def FnExactPointsLeftUptoCardSaid : Prop := Claim7.holds Tryd.pinned (.plain (OpenSpec.upto fnExactPointsLeftSpec)) fnExactPointsLeftUptoCard

/-- THE SECOND FORM's CARD OF 'laws.FnExactCanStillWin'. -/
def fnExactCanStillWinUptoCard : Claim7 := { stood := { row := fnExactCanStillWinUptoRow, standIns := [], harness := (true, "617e67de5a024da9749170b26c813dff3dd5c113510c31085b13ea886daf6b19"), looks := false }, kinds := [], alts := [], laidByText := true, laidKinds := [.data, .data, .data], laidTests := true, laidLooks := .later }
def FnExactCanStillWinUptoCardSaid : Prop := Claim7.holds Tryd.pinned (.plain (OpenSpec.upto fnExactCanStillWinSpec)) fnExactCanStillWinUptoCard

/-- THE SECOND FORM's CARD OF 'laws.FnExactFoulsNeeded'. -/
def fnExactFoulsNeededUptoCard : Claim7 := { stood := { row := fnExactFoulsNeededUptoRow, standIns := [], harness := (true, "617e67de5a024da9749170b26c813dff3dd5c113510c31085b13ea886daf6b19"), looks := false }, kinds := [], alts := [], laidByText := true, laidKinds := [.data, .data, .data], laidTests := true, laidLooks := .later }
def FnExactFoulsNeededUptoCardSaid : Prop := Claim7.holds Tryd.pinned (.plain (OpenSpec.upto fnExactFoulsNeededSpec)) fnExactFoulsNeededUptoCard

/-- THE SECOND FORM's CARD OF 'laws.FnExactCountByPoints'. -/
def fnExactCountByPointsUptoCard : Claim7 := { stood := { row := fnExactCountByPointsUptoRow, standIns := [], harness := (true, "617e67de5a024da9749170b26c813dff3dd5c113510c31085b13ea886daf6b19"), looks := false }, kinds := [], alts := [], laidByText := true, laidKinds := [.data, .data, .data], laidTests := true, laidLooks := .later }
def FnExactCountByPointsUptoCardSaid : Prop := Claim7.holds Tryd.pinned (.plain (OpenSpec.upto fnExactCountByPointsSpec)) fnExactCountByPointsUptoCard

/-- THE SECOND FORM's CARD OF 'laws.FnExactFirstWithPoints'. -/
def fnExactFirstWithPointsUptoCard : Claim7 := { stood := { row := fnExactFirstWithPointsUptoRow, standIns := [], harness := (true, "617e67de5a024da9749170b26c813dff3dd5c113510c31085b13ea886daf6b19"), looks := false }, kinds := [], alts := [], laidByText := true, laidKinds := [.data, .data, .data], laidTests := true, laidLooks := .later }
def FnExactFirstWithPointsUptoCardSaid : Prop := Claim7.holds Tryd.pinned (.plain (OpenSpec.upto fnExactFirstWithPointsSpec)) fnExactFirstWithPointsUptoCard

/-- THE SECOND FORM's CARD OF 'laws.FnExactPotBall'. -/
def fnExactPotBallUptoCard : Claim7 := { stood := { row := fnExactPotBallUptoRow, standIns := [], harness := (true, "617e67de5a024da9749170b26c813dff3dd5c113510c31085b13ea886daf6b19"), looks := false }, kinds := [], alts := [], laidByText := true, laidKinds := [.data, .data, .data], laidTests := true, laidLooks := .later }
def FnExactPotBallUptoCardSaid : Prop := Claim7.holds Tryd.pinned (.plain (OpenSpec.upto fnExactPotBallSpec)) fnExactPotBallUptoCard

/-- THE SECOND FORM's CARD OF 'laws.FnExactIsBreak'. -/
def fnExactIsBreakUptoCard : Claim7 := { stood := { row := fnExactIsBreakUptoRow, standIns := [], harness := (true, "617e67de5a024da9749170b26c813dff3dd5c113510c31085b13ea886daf6b19"), looks := false }, kinds := [], alts := [], laidByText := true, laidKinds := [.data, .data, .data], laidTests := true, laidLooks := .later }
def FnExactIsBreakUptoCardSaid : Prop := Claim7.holds Tryd.pinned (.plain (OpenSpec.upto fnExactIsBreakSpec)) fnExactIsBreakUptoCard

/-- THE SECOND FORM's CARD OF 'laws.FnExactFrameAfter'. -/
def fnExactFrameAfterUptoCard : Claim7 := { stood := { row := fnExactFrameAfterUptoRow, standIns := [], harness := (true, "617e67de5a024da9749170b26c813dff3dd5c113510c31085b13ea886daf6b19"), looks := false }, kinds := [], alts := [], laidByText := true, laidKinds := [.data, .data, .data], laidTests := true, laidLooks := .later }
def FnExactFrameAfterUptoCardSaid : Prop := Claim7.holds Tryd.pinned (.plain (OpenSpec.upto fnExactFrameAfterSpec)) fnExactFrameAfterUptoCard

/-- THE SECOND FORM's CARD OF 'laws.FnExactPlayFrame'. -/
def fnExactPlayFrameUptoCard : Claim7 := { stood := { row := fnExactPlayFrameUptoRow, standIns := [], harness := (true, "617e67de5a024da9749170b26c813dff3dd5c113510c31085b13ea886daf6b19"), looks := false }, kinds := [], alts := [], laidByText := true, laidKinds := [.data, .data, .data, .data, .pinned], laidTests := true, laidLooks := .later }
def FnExactPlayFrameUptoCardSaid : Prop := Claim7.holds Tryd.pinned (.plain (OpenSpec.upto fnExactPlayFrameSpec)) fnExactPlayFrameUptoCard
end Rows
end Go.Proofs.YtogcikjkfobjiaaDoor
