/-
  DERIVED. GIVEN WITH THE SEED: THE CARDS: each row of YtajmbipefekecaaDoorRows.lean that lists a variable, with what it lists TIED to the program's text (the seventh form; the later family's looks); each row that meets fmt, with fmt's text TOLD by the authors' own Lean function (tested against real Go, not proved from fmt's source: count such statements apart). THE CARD IS WHAT COUNTS. Prove the row's statement (the work); the ties are given (YtajmbipefekecaaDoorTie.lean); close each card by the builder's one call (the guide's Derived/Test/ToyasCard.lean, 'card_holds'). Laid BY PROGRAM, IN A SANDBOX (cutbox-door.mjs). By AI agents, Wed Nov 11 2026. No macro, syntax, notation, axiom, sorry.
-/
import Derived.Test.YtajmbipefekecaaDoorRows
import GoSem.ClaimSeven
namespace Go.Proofs.YtajmbipefekecaaDoor
namespace Rows

/-- THE TIED CARD OF 'laws.FnExactBordersOf'. -/
def fnExactBordersOfCard : Claim7 := { stood := { row := fnExactBordersOfRow, standIns := [], harness := (true, "4542c10ad0332975b35b95bcd544abbd7454c4e025cccf1ba2422f19517ad692"), looks := false }, kinds := [], alts := [], laidByText := true, laidKinds := [.data, .pinned], laidTests := true, laidLooks := .later }
def FnExactBordersOfCardSaid : Prop := Claim7.holds Tryd.pinned (.plain (OpenSpec.ofChange fnExactBordersOfSpec)) fnExactBordersOfCard

/-- THE TIED CARD OF 'laws.FnExactCertainBorders'. -/
def fnExactCertainBordersCard : Claim7 := { stood := { row := fnExactCertainBordersRow, standIns := [], harness := (true, "4542c10ad0332975b35b95bcd544abbd7454c4e025cccf1ba2422f19517ad692"), looks := false }, kinds := [], alts := [], laidByText := true, laidKinds := [.data, .pinned], laidTests := true, laidLooks := .later }
def FnExactCertainBordersCardSaid : Prop := Claim7.holds Tryd.pinned (.plain (OpenSpec.ofChange fnExactCertainBordersSpec)) fnExactCertainBordersCard

/-- THE TIED CARD OF 'laws.FnExactLongestReading'. -/
def fnExactLongestReadingCard : Claim7 := { stood := { row := fnExactLongestReadingRow, standIns := [], harness := (true, "4542c10ad0332975b35b95bcd544abbd7454c4e025cccf1ba2422f19517ad692"), looks := false }, kinds := [], alts := [], laidByText := true, laidKinds := [.data, .pinned], laidTests := true, laidLooks := .later }
def FnExactLongestReadingCardSaid : Prop := Claim7.holds Tryd.pinned (.plain (OpenSpec.ofChange fnExactLongestReadingSpec)) fnExactLongestReadingCard

/-- THE TIED CARD OF 'laws.FnExactShortestReading'. -/
def fnExactShortestReadingCard : Claim7 := { stood := { row := fnExactShortestReadingRow, standIns := [], harness := (true, "4542c10ad0332975b35b95bcd544abbd7454c4e025cccf1ba2422f19517ad692"), looks := false }, kinds := [], alts := [], laidByText := true, laidKinds := [.data, .pinned], laidTests := true, laidLooks := .later }
def FnExactShortestReadingCardSaid : Prop := Claim7.holds Tryd.pinned (.plain (OpenSpec.ofChange fnExactShortestReadingSpec)) fnExactShortestReadingCard

/-- THE SECOND FORM's CARD OF 'laws.FnExactBordersOf'. -/
def fnExactBordersOfUptoCard : Claim7 := { stood := { row := fnExactBordersOfUptoRow, standIns := [], harness := (true, "4542c10ad0332975b35b95bcd544abbd7454c4e025cccf1ba2422f19517ad692"), looks := false }, kinds := [], alts := [], laidByText := true, laidKinds := [.data, .pinned], laidTests := true, laidLooks := .later }
def FnExactBordersOfUptoCardSaid : Prop := Claim7.holds Tryd.pinned (.plain (OpenSpec.upto fnExactBordersOfSpec)) fnExactBordersOfUptoCard

/-- THE SECOND FORM's CARD OF 'laws.FnExactCertainBorders'. -/
def fnExactCertainBordersUptoCard : Claim7 := { stood := { row := fnExactCertainBordersUptoRow, standIns := [], harness := (true, "4542c10ad0332975b35b95bcd544abbd7454c4e025cccf1ba2422f19517ad692"), looks := false }, kinds := [], alts := [], laidByText := true, laidKinds := [.data, .pinned], laidTests := true, laidLooks := .later }
def FnExactCertainBordersUptoCardSaid : Prop := Claim7.holds Tryd.pinned (.plain (OpenSpec.upto fnExactCertainBordersSpec)) fnExactCertainBordersUptoCard

/-- THE SECOND FORM's CARD OF 'laws.FnExactLongestReading'. -/
def fnExactLongestReadingUptoCard : Claim7 := { stood := { row := fnExactLongestReadingUptoRow, standIns := [], harness := (true, "4542c10ad0332975b35b95bcd544abbd7454c4e025cccf1ba2422f19517ad692"), looks := false }, kinds := [], alts := [], laidByText := true, laidKinds := [.data, .pinned], laidTests := true, laidLooks := .later }
def FnExactLongestReadingUptoCardSaid : Prop := Claim7.holds Tryd.pinned (.plain (OpenSpec.upto fnExactLongestReadingSpec)) fnExactLongestReadingUptoCard

/-- THE SECOND FORM's CARD OF 'laws.FnExactShortestReading'. -/
def fnExactShortestReadingUptoCard : Claim7 := { stood := { row := fnExactShortestReadingUptoRow, standIns := [], harness := (true, "4542c10ad0332975b35b95bcd544abbd7454c4e025cccf1ba2422f19517ad692"), looks := false }, kinds := [], alts := [], laidByText := true, laidKinds := [.data, .pinned], laidTests := true, laidLooks := .later }
def FnExactShortestReadingUptoCardSaid : Prop := Claim7.holds Tryd.pinned (.plain (OpenSpec.upto fnExactShortestReadingSpec)) fnExactShortestReadingUptoCard
end Rows
end Go.Proofs.YtajmbipefekecaaDoor
