/-
  DERIVED. GIVEN WITH THE SEED: THE CARDS: each row of YtolfmhkhllfpmaaDoorRows.lean that lists a variable, with what it lists TIED to the program's text (the seventh form; the later family's looks); each row that meets fmt, with fmt's text TOLD by the authors' own Lean function (tested against real Go, not proved from fmt's source: count such statements apart). THE CARD IS WHAT COUNTS. Prove the row's statement (the work); the ties are given (YtolfmhkhllfpmaaDoorTie.lean); close each card by the builder's one call (the guide's Derived/Test/ToyasCard.lean, 'card_holds'). Laid BY PROGRAM, IN A SANDBOX (cutbox-door.mjs). By AI agents, Wed Nov 11 2026. No macro, syntax, notation, axiom, sorry.
-/
import Derived.Test.YtolfmhkhllfpmaaDoorRows
import GoSem.ClaimSeven
namespace Go.Proofs.YtolfmhkhllfpmaaDoor
namespace Rows

/-- THE TIED CARD OF 'laws.FnExactReadingAt'. -/
def fnExactReadingAtCard : Claim7 := { stood := { row := fnExactReadingAtRow, standIns := [], harness := (true, "e5c436b354f3e8b77e662fd304359ffc30716df2974105e19a79b73c9f47bfc0"), looks := false }, kinds := [], alts := [], laidByText := true, laidKinds := [.data, .pinned], laidTests := true, laidLooks := .later }
def FnExactReadingAtCardSaid : Prop := Claim7.holds Tryd.pinned (.plain (OpenSpec.ofChange fnExactReadingAtSpec)) fnExactReadingAtCard

/-- THE TIED CARD OF 'laws.FnExactRankOfReading'. -/
def fnExactRankOfReadingCard : Claim7 := { stood := { row := fnExactRankOfReadingRow, standIns := [], harness := (true, "e5c436b354f3e8b77e662fd304359ffc30716df2974105e19a79b73c9f47bfc0"), looks := false }, kinds := [], alts := [], laidByText := true, laidKinds := [.data, .pinned], laidTests := true, laidLooks := .later }
def FnExactRankOfReadingCardSaid : Prop := Claim7.holds Tryd.pinned (.plain (OpenSpec.ofChange fnExactRankOfReadingSpec)) fnExactRankOfReadingCard

/-- THE TIED CARD OF 'laws.FnExactBordersOf'. -/
def fnExactBordersOfCard : Claim7 := { stood := { row := fnExactBordersOfRow, standIns := [], harness := (true, "e5c436b354f3e8b77e662fd304359ffc30716df2974105e19a79b73c9f47bfc0"), looks := false }, kinds := [], alts := [], laidByText := true, laidKinds := [.data, .pinned], laidTests := true, laidLooks := .later }
def FnExactBordersOfCardSaid : Prop := Claim7.holds Tryd.pinned (.plain (OpenSpec.ofChange fnExactBordersOfSpec)) fnExactBordersOfCard

/-- THE TIED CARD OF 'laws.FnExactCertainBorders'. -/
def fnExactCertainBordersCard : Claim7 := { stood := { row := fnExactCertainBordersRow, standIns := [], harness := (true, "e5c436b354f3e8b77e662fd304359ffc30716df2974105e19a79b73c9f47bfc0"), looks := false }, kinds := [], alts := [], laidByText := true, laidKinds := [.data, .pinned], laidTests := true, laidLooks := .later }
def FnExactCertainBordersCardSaid : Prop := Claim7.holds Tryd.pinned (.plain (OpenSpec.ofChange fnExactCertainBordersSpec)) fnExactCertainBordersCard

/-- THE TIED CARD OF 'laws.FnExactBeginningPairs'. -/
def fnExactBeginningPairsCard : Claim7 := { stood := { row := fnExactBeginningPairsRow, standIns := [], harness := (true, "e5c436b354f3e8b77e662fd304359ffc30716df2974105e19a79b73c9f47bfc0"), looks := false }, kinds := [], alts := [], laidByText := true, laidKinds := [.data, .pinned], laidTests := true, laidLooks := .later }
def FnExactBeginningPairsCardSaid : Prop := Claim7.holds Tryd.pinned (.plain (OpenSpec.ofChange fnExactBeginningPairsSpec)) fnExactBeginningPairsCard

/-- THE TIED CARD OF 'laws.FnExactSwapLetters'. -/
def fnExactSwapLettersCard : Claim7 := { stood := { row := fnExactSwapLettersRow, standIns := [], harness := (true, "e5c436b354f3e8b77e662fd304359ffc30716df2974105e19a79b73c9f47bfc0"), looks := false }, kinds := [], alts := [], laidByText := true, laidKinds := [.data, .pinned], laidTests := true, laidLooks := .later }
def FnExactSwapLettersCardSaid : Prop := Claim7.holds Tryd.pinned (.plain (OpenSpec.ofChange fnExactSwapLettersSpec)) fnExactSwapLettersCard

/-- THE TIED CARD OF 'laws.FnExactBackTable'. -/
def fnExactBackTableCard : Claim7 := { stood := { row := fnExactBackTableRow, standIns := [], harness := (true, "e5c436b354f3e8b77e662fd304359ffc30716df2974105e19a79b73c9f47bfc0"), looks := false }, kinds := [], alts := [], laidByText := true, laidKinds := [.data, .pinned], laidTests := true, laidLooks := .later }
def FnExactBackTableCardSaid : Prop := Claim7.holds Tryd.pinned (.plain (OpenSpec.ofChange fnExactBackTableSpec)) fnExactBackTableCard

/-- THE TIED CARD OF 'laws.FnExactLongestReading'. -/
def fnExactLongestReadingCard : Claim7 := { stood := { row := fnExactLongestReadingRow, standIns := [], harness := (true, "e5c436b354f3e8b77e662fd304359ffc30716df2974105e19a79b73c9f47bfc0"), looks := false }, kinds := [], alts := [], laidByText := true, laidKinds := [.data, .pinned], laidTests := true, laidLooks := .later }
def FnExactLongestReadingCardSaid : Prop := Claim7.holds Tryd.pinned (.plain (OpenSpec.ofChange fnExactLongestReadingSpec)) fnExactLongestReadingCard

/-- THE TIED CARD OF 'laws.FnExactShortestReading'. -/
def fnExactShortestReadingCard : Claim7 := { stood := { row := fnExactShortestReadingRow, standIns := [], harness := (true, "e5c436b354f3e8b77e662fd304359ffc30716df2974105e19a79b73c9f47bfc0"), looks := false }, kinds := [], alts := [], laidByText := true, laidKinds := [.data, .pinned], laidTests := true, laidLooks := .later }
def FnExactShortestReadingCardSaid : Prop := Claim7.holds Tryd.pinned (.plain (OpenSpec.ofChange fnExactShortestReadingSpec)) fnExactShortestReadingCard

/-- THE SECOND FORM's CARD OF 'laws.FnExactReadingAt'. -/
def fnExactReadingAtUptoCard : Claim7 := { stood := { row := fnExactReadingAtUptoRow, standIns := [], harness := (true, "e5c436b354f3e8b77e662fd304359ffc30716df2974105e19a79b73c9f47bfc0"), looks := false }, kinds := [], alts := [], laidByText := true, laidKinds := [.data, .pinned], laidTests := true, laidLooks := .later }
def FnExactReadingAtUptoCardSaid : Prop := Claim7.holds Tryd.pinned (.plain (OpenSpec.upto fnExactReadingAtSpec)) fnExactReadingAtUptoCard

/-- THE SECOND FORM's CARD OF 'laws.FnExactRankOfReading'. -/
def fnExactRankOfReadingUptoCard : Claim7 := { stood := { row := fnExactRankOfReadingUptoRow, standIns := [], harness := (true, "e5c436b354f3e8b77e662fd304359ffc30716df2974105e19a79b73c9f47bfc0"), looks := false }, kinds := [], alts := [], laidByText := true, laidKinds := [.data, .pinned], laidTests := true, laidLooks := .later }
def FnExactRankOfReadingUptoCardSaid : Prop := Claim7.holds Tryd.pinned (.plain (OpenSpec.upto fnExactRankOfReadingSpec)) fnExactRankOfReadingUptoCard

/-- THE SECOND FORM's CARD OF 'laws.FnExactBordersOf'. -/
def fnExactBordersOfUptoCard : Claim7 := { stood := { row := fnExactBordersOfUptoRow, standIns := [], harness := (true, "e5c436b354f3e8b77e662fd304359ffc30716df2974105e19a79b73c9f47bfc0"), looks := false }, kinds := [], alts := [], laidByText := true, laidKinds := [.data, .pinned], laidTests := true, laidLooks := .later }
def FnExactBordersOfUptoCardSaid : Prop := Claim7.holds Tryd.pinned (.plain (OpenSpec.upto fnExactBordersOfSpec)) fnExactBordersOfUptoCard

/-- THE SECOND FORM's CARD OF 'laws.FnExactCertainBorders'. -/
def fnExactCertainBordersUptoCard : Claim7 := { stood := { row := fnExactCertainBordersUptoRow, standIns := [], harness := (true, "e5c436b354f3e8b77e662fd304359ffc30716df2974105e19a79b73c9f47bfc0"), looks := false }, kinds := [], alts := [], laidByText := true, laidKinds := [.data, .pinned], laidTests := true, laidLooks := .later }
def FnExactCertainBordersUptoCardSaid : Prop := Claim7.holds Tryd.pinned (.plain (OpenSpec.upto fnExactCertainBordersSpec)) fnExactCertainBordersUptoCard

/-- THE SECOND FORM's CARD OF 'laws.FnExactBeginningPairs'. -/
def fnExactBeginningPairsUptoCard : Claim7 := { stood := { row := fnExactBeginningPairsUptoRow, standIns := [], harness := (true, "e5c436b354f3e8b77e662fd304359ffc30716df2974105e19a79b73c9f47bfc0"), looks := false }, kinds := [], alts := [], laidByText := true, laidKinds := [.data, .pinned], laidTests := true, laidLooks := .later }
def FnExactBeginningPairsUptoCardSaid : Prop := Claim7.holds Tryd.pinned (.plain (OpenSpec.upto fnExactBeginningPairsSpec)) fnExactBeginningPairsUptoCard

/-- THE SECOND FORM's CARD OF 'laws.FnExactSwapLetters'. -/
def fnExactSwapLettersUptoCard : Claim7 := { stood := { row := fnExactSwapLettersUptoRow, standIns := [], harness := (true, "e5c436b354f3e8b77e662fd304359ffc30716df2974105e19a79b73c9f47bfc0"), looks := false }, kinds := [], alts := [], laidByText := true, laidKinds := [.data, .pinned], laidTests := true, laidLooks := .later }
def FnExactSwapLettersUptoCardSaid : Prop := Claim7.holds Tryd.pinned (.plain (OpenSpec.upto fnExactSwapLettersSpec)) fnExactSwapLettersUptoCard

/-- THE SECOND FORM's CARD OF 'laws.FnExactBackTable'. -/
def fnExactBackTableUptoCard : Claim7 := { stood := { row := fnExactBackTableUptoRow, standIns := [], harness := (true, "e5c436b354f3e8b77e662fd304359ffc30716df2974105e19a79b73c9f47bfc0"), looks := false }, kinds := [], alts := [], laidByText := true, laidKinds := [.data, .pinned], laidTests := true, laidLooks := .later }
def FnExactBackTableUptoCardSaid : Prop := Claim7.holds Tryd.pinned (.plain (OpenSpec.upto fnExactBackTableSpec)) fnExactBackTableUptoCard

/-- THE SECOND FORM's CARD OF 'laws.FnExactLongestReading'. -/
def fnExactLongestReadingUptoCard : Claim7 := { stood := { row := fnExactLongestReadingUptoRow, standIns := [], harness := (true, "e5c436b354f3e8b77e662fd304359ffc30716df2974105e19a79b73c9f47bfc0"), looks := false }, kinds := [], alts := [], laidByText := true, laidKinds := [.data, .pinned], laidTests := true, laidLooks := .later }
def FnExactLongestReadingUptoCardSaid : Prop := Claim7.holds Tryd.pinned (.plain (OpenSpec.upto fnExactLongestReadingSpec)) fnExactLongestReadingUptoCard

/-- THE SECOND FORM's CARD OF 'laws.FnExactShortestReading'. -/
def fnExactShortestReadingUptoCard : Claim7 := { stood := { row := fnExactShortestReadingUptoRow, standIns := [], harness := (true, "e5c436b354f3e8b77e662fd304359ffc30716df2974105e19a79b73c9f47bfc0"), looks := false }, kinds := [], alts := [], laidByText := true, laidKinds := [.data, .pinned], laidTests := true, laidLooks := .later }
def FnExactShortestReadingUptoCardSaid : Prop := Claim7.holds Tryd.pinned (.plain (OpenSpec.upto fnExactShortestReadingSpec)) fnExactShortestReadingUptoCard
end Rows
end Go.Proofs.YtolfmhkhllfpmaaDoor
