/-
  DERIVED. GIVEN WITH THE SEED: THE CARDS: each row of YtajocpgghdmimaaDoorRows.lean that lists a variable, with what it lists TIED to the program's text (the seventh form; the later family's looks); each row that meets fmt, with fmt's text TOLD by the authors' own Lean function (tested against real Go, not proved from fmt's source: count such statements apart). THE CARD IS WHAT COUNTS. Prove the row's statement (the work); the ties are given (YtajocpgghdmimaaDoorTie.lean); close each card by the builder's one call (the guide's Derived/Test/ToyasCard.lean, 'card_holds'). Laid BY PROGRAM, IN A SANDBOX (cutbox-door.mjs). By AI agents, Wed Nov 11 2026. No macro, syntax, notation, axiom, sorry.
-/
import Derived.Test.YtajocpgghdmimaaDoorRows
import GoSem.ClaimSeven
namespace Go.Proofs.YtajocpgghdmimaaDoor
namespace Rows

/-- THE TIED CARD OF 'laws.FnExactIsTable'. -/
def fnExactIsTableCard : Claim7 := { stood := { row := fnExactIsTableRow, standIns := [], harness := (true, "f36ee12b29d789e44a27b0544a9d4cd2c8ef171bb52bbe7b11a4579dfb13b299"), looks := false }, kinds := [], alts := [], laidByText := true, laidKinds := [.data, .pinned], laidTests := true, laidLooks := .later }
def FnExactIsTableCardSaid : Prop := Claim7.holds Tryd.pinned (.plain (OpenSpec.ofChange fnExactIsTableSpec)) fnExactIsTableCard

/-- THE TIED CARD OF 'laws.FnExactMarksOf'. -/
def fnExactMarksOfCard : Claim7 := { stood := { row := fnExactMarksOfRow, standIns := [], harness := (true, "f36ee12b29d789e44a27b0544a9d4cd2c8ef171bb52bbe7b11a4579dfb13b299"), looks := false }, kinds := [], alts := [], laidByText := true, laidKinds := [.data, .pinned], laidTests := true, laidLooks := .later }
def FnExactMarksOfCardSaid : Prop := Claim7.holds Tryd.pinned (.plain (OpenSpec.ofChange fnExactMarksOfSpec)) fnExactMarksOfCard

/-- THE TIED CARD OF 'laws.FnExactLetterOf'. -/
def fnExactLetterOfCard : Claim7 := { stood := { row := fnExactLetterOfRow, standIns := [], harness := (true, "f36ee12b29d789e44a27b0544a9d4cd2c8ef171bb52bbe7b11a4579dfb13b299"), looks := false }, kinds := [], alts := [], laidByText := true, laidKinds := [.data, .pinned], laidTests := true, laidLooks := .later }
def FnExactLetterOfCardSaid : Prop := Claim7.holds Tryd.pinned (.plain (OpenSpec.ofChange fnExactLetterOfSpec)) fnExactLetterOfCard

/-- THE TIED CARD OF 'laws.FnExactIsMessage'. -/
def fnExactIsMessageCard : Claim7 := { stood := { row := fnExactIsMessageRow, standIns := [], harness := (true, "f36ee12b29d789e44a27b0544a9d4cd2c8ef171bb52bbe7b11a4579dfb13b299"), looks := false }, kinds := [], alts := [], laidByText := true, laidKinds := [.data, .pinned], laidTests := true, laidLooks := .later }
def FnExactIsMessageCardSaid : Prop := Claim7.holds Tryd.pinned (.plain (OpenSpec.ofChange fnExactIsMessageSpec)) fnExactIsMessageCard

/-- THE TIED CARD OF 'laws.FnExactIsFreeTable'. -/
def fnExactIsFreeTableCard : Claim7 := { stood := { row := fnExactIsFreeTableRow, standIns := [], harness := (true, "f36ee12b29d789e44a27b0544a9d4cd2c8ef171bb52bbe7b11a4579dfb13b299"), looks := false }, kinds := [], alts := [], laidByText := true, laidKinds := [.data, .pinned], laidTests := true, laidLooks := .later }
def FnExactIsFreeTableCardSaid : Prop := Claim7.holds Tryd.pinned (.plain (OpenSpec.ofChange fnExactIsFreeTableSpec)) fnExactIsFreeTableCard

/-- THE TIED CARD OF 'laws.FnExactCountReadings'. -/
def fnExactCountReadingsCard : Claim7 := { stood := { row := fnExactCountReadingsRow, standIns := [], harness := (true, "f36ee12b29d789e44a27b0544a9d4cd2c8ef171bb52bbe7b11a4579dfb13b299"), looks := false }, kinds := [], alts := [], laidByText := true, laidKinds := [.data, .pinned], laidTests := true, laidLooks := .later }
def FnExactCountReadingsCardSaid : Prop := Claim7.holds Tryd.pinned (.plain (OpenSpec.ofChange fnExactCountReadingsSpec)) fnExactCountReadingsCard

/-- THE TIED CARD OF 'laws.FnExactAddLetter'. -/
def fnExactAddLetterCard : Claim7 := { stood := { row := fnExactAddLetterRow, standIns := [], harness := (true, "f36ee12b29d789e44a27b0544a9d4cd2c8ef171bb52bbe7b11a4579dfb13b299"), looks := false }, kinds := [], alts := [], laidByText := true, laidKinds := [.data, .pinned], laidTests := true, laidLooks := .later }
def FnExactAddLetterCardSaid : Prop := Claim7.holds Tryd.pinned (.plain (OpenSpec.ofChange fnExactAddLetterSpec)) fnExactAddLetterCard

/-- THE TIED CARD OF 'laws.FnExactSwapLetters'. -/
def fnExactSwapLettersCard : Claim7 := { stood := { row := fnExactSwapLettersRow, standIns := [], harness := (true, "f36ee12b29d789e44a27b0544a9d4cd2c8ef171bb52bbe7b11a4579dfb13b299"), looks := false }, kinds := [], alts := [], laidByText := true, laidKinds := [.data, .pinned], laidTests := true, laidLooks := .later }
def FnExactSwapLettersCardSaid : Prop := Claim7.holds Tryd.pinned (.plain (OpenSpec.ofChange fnExactSwapLettersSpec)) fnExactSwapLettersCard

/-- THE TIED CARD OF 'laws.FnExactBackTable'. -/
def fnExactBackTableCard : Claim7 := { stood := { row := fnExactBackTableRow, standIns := [], harness := (true, "f36ee12b29d789e44a27b0544a9d4cd2c8ef171bb52bbe7b11a4579dfb13b299"), looks := false }, kinds := [], alts := [], laidByText := true, laidKinds := [.data, .pinned], laidTests := true, laidLooks := .later }
def FnExactBackTableCardSaid : Prop := Claim7.holds Tryd.pinned (.plain (OpenSpec.ofChange fnExactBackTableSpec)) fnExactBackTableCard

/-- THE TIED CARD OF 'laws.FnExactTableText'. -/
def fnExactTableTextCard : Claim7 := { stood := { row := fnExactTableTextRow, standIns := [], harness := (true, "f36ee12b29d789e44a27b0544a9d4cd2c8ef171bb52bbe7b11a4579dfb13b299"), looks := false }, kinds := [], alts := [], laidByText := true, laidKinds := [.data, .pinned], laidTests := true, laidLooks := .later }
def FnExactTableTextCardSaid : Prop := Claim7.holds Tryd.pinned (.plain (OpenSpec.ofChange fnExactTableTextSpec)) fnExactTableTextCard

/-- THE TIED CARD OF 'laws.FnExactBeginningPairs'. -/
def fnExactBeginningPairsCard : Claim7 := { stood := { row := fnExactBeginningPairsRow, standIns := [], harness := (true, "f36ee12b29d789e44a27b0544a9d4cd2c8ef171bb52bbe7b11a4579dfb13b299"), looks := false }, kinds := [], alts := [], laidByText := true, laidKinds := [.data, .pinned], laidTests := true, laidLooks := .later }
def FnExactBeginningPairsCardSaid : Prop := Claim7.holds Tryd.pinned (.plain (OpenSpec.ofChange fnExactBeginningPairsSpec)) fnExactBeginningPairsCard

/-- THE TIED CARD OF 'laws.FnExactReadingAt'. -/
def fnExactReadingAtCard : Claim7 := { stood := { row := fnExactReadingAtRow, standIns := [], harness := (true, "f36ee12b29d789e44a27b0544a9d4cd2c8ef171bb52bbe7b11a4579dfb13b299"), looks := false }, kinds := [], alts := [], laidByText := true, laidKinds := [.data, .pinned], laidTests := true, laidLooks := .later }
def FnExactReadingAtCardSaid : Prop := Claim7.holds Tryd.pinned (.plain (OpenSpec.ofChange fnExactReadingAtSpec)) fnExactReadingAtCard

/-- THE SECOND FORM's CARD OF 'laws.FnExactIsTable'. -/
def fnExactIsTableUptoCard : Claim7 := { stood := { row := fnExactIsTableUptoRow, standIns := [], harness := (true, "f36ee12b29d789e44a27b0544a9d4cd2c8ef171bb52bbe7b11a4579dfb13b299"), looks := false }, kinds := [], alts := [], laidByText := true, laidKinds := [.data, .pinned], laidTests := true, laidLooks := .later }
def FnExactIsTableUptoCardSaid : Prop := Claim7.holds Tryd.pinned (.plain (OpenSpec.upto fnExactIsTableSpec)) fnExactIsTableUptoCard

/-- THE SECOND FORM's CARD OF 'laws.FnExactMarksOf'. -/
def fnExactMarksOfUptoCard : Claim7 := { stood := { row := fnExactMarksOfUptoRow, standIns := [], harness := (true, "f36ee12b29d789e44a27b0544a9d4cd2c8ef171bb52bbe7b11a4579dfb13b299"), looks := false }, kinds := [], alts := [], laidByText := true, laidKinds := [.data, .pinned], laidTests := true, laidLooks := .later }
def FnExactMarksOfUptoCardSaid : Prop := Claim7.holds Tryd.pinned (.plain (OpenSpec.upto fnExactMarksOfSpec)) fnExactMarksOfUptoCard

/-- THE SECOND FORM's CARD OF 'laws.FnExactLetterOf'. -/
def fnExactLetterOfUptoCard : Claim7 := { stood := { row := fnExactLetterOfUptoRow, standIns := [], harness := (true, "f36ee12b29d789e44a27b0544a9d4cd2c8ef171bb52bbe7b11a4579dfb13b299"), looks := false }, kinds := [], alts := [], laidByText := true, laidKinds := [.data, .pinned], laidTests := true, laidLooks := .later }
def FnExactLetterOfUptoCardSaid : Prop := Claim7.holds Tryd.pinned (.plain (OpenSpec.upto fnExactLetterOfSpec)) fnExactLetterOfUptoCard

/-- THE SECOND FORM's CARD OF 'laws.FnExactIsMessage'. -/
def fnExactIsMessageUptoCard : Claim7 := { stood := { row := fnExactIsMessageUptoRow, standIns := [], harness := (true, "f36ee12b29d789e44a27b0544a9d4cd2c8ef171bb52bbe7b11a4579dfb13b299"), looks := false }, kinds := [], alts := [], laidByText := true, laidKinds := [.data, .pinned], laidTests := true, laidLooks := .later }
def FnExactIsMessageUptoCardSaid : Prop := Claim7.holds Tryd.pinned (.plain (OpenSpec.upto fnExactIsMessageSpec)) fnExactIsMessageUptoCard

/-- THE SECOND FORM's CARD OF 'laws.FnExactIsFreeTable'. -/
def fnExactIsFreeTableUptoCard : Claim7 := { stood := { row := fnExactIsFreeTableUptoRow, standIns := [], harness := (true, "f36ee12b29d789e44a27b0544a9d4cd2c8ef171bb52bbe7b11a4579dfb13b299"), looks := false }, kinds := [], alts := [], laidByText := true, laidKinds := [.data, .pinned], laidTests := true, laidLooks := .later }
def FnExactIsFreeTableUptoCardSaid : Prop := Claim7.holds Tryd.pinned (.plain (OpenSpec.upto fnExactIsFreeTableSpec)) fnExactIsFreeTableUptoCard

/-- THE SECOND FORM's CARD OF 'laws.FnExactCountReadings'. -/
def fnExactCountReadingsUptoCard : Claim7 := { stood := { row := fnExactCountReadingsUptoRow, standIns := [], harness := (true, "f36ee12b29d789e44a27b0544a9d4cd2c8ef171bb52bbe7b11a4579dfb13b299"), looks := false }, kinds := [], alts := [], laidByText := true, laidKinds := [.data, .pinned], laidTests := true, laidLooks := .later }
def FnExactCountReadingsUptoCardSaid : Prop := Claim7.holds Tryd.pinned (.plain (OpenSpec.upto fnExactCountReadingsSpec)) fnExactCountReadingsUptoCard

/-- THE SECOND FORM's CARD OF 'laws.FnExactAddLetter'. -/
def fnExactAddLetterUptoCard : Claim7 := { stood := { row := fnExactAddLetterUptoRow, standIns := [], harness := (true, "f36ee12b29d789e44a27b0544a9d4cd2c8ef171bb52bbe7b11a4579dfb13b299"), looks := false }, kinds := [], alts := [], laidByText := true, laidKinds := [.data, .pinned], laidTests := true, laidLooks := .later }
def FnExactAddLetterUptoCardSaid : Prop := Claim7.holds Tryd.pinned (.plain (OpenSpec.upto fnExactAddLetterSpec)) fnExactAddLetterUptoCard

/-- THE SECOND FORM's CARD OF 'laws.FnExactSwapLetters'. -/
def fnExactSwapLettersUptoCard : Claim7 := { stood := { row := fnExactSwapLettersUptoRow, standIns := [], harness := (true, "f36ee12b29d789e44a27b0544a9d4cd2c8ef171bb52bbe7b11a4579dfb13b299"), looks := false }, kinds := [], alts := [], laidByText := true, laidKinds := [.data, .pinned], laidTests := true, laidLooks := .later }
def FnExactSwapLettersUptoCardSaid : Prop := Claim7.holds Tryd.pinned (.plain (OpenSpec.upto fnExactSwapLettersSpec)) fnExactSwapLettersUptoCard

/-- THE SECOND FORM's CARD OF 'laws.FnExactBackTable'. -/
def fnExactBackTableUptoCard : Claim7 := { stood := { row := fnExactBackTableUptoRow, standIns := [], harness := (true, "f36ee12b29d789e44a27b0544a9d4cd2c8ef171bb52bbe7b11a4579dfb13b299"), looks := false }, kinds := [], alts := [], laidByText := true, laidKinds := [.data, .pinned], laidTests := true, laidLooks := .later }
def FnExactBackTableUptoCardSaid : Prop := Claim7.holds Tryd.pinned (.plain (OpenSpec.upto fnExactBackTableSpec)) fnExactBackTableUptoCard

/-- THE SECOND FORM's CARD OF 'laws.FnExactTableText'. -/
def fnExactTableTextUptoCard : Claim7 := { stood := { row := fnExactTableTextUptoRow, standIns := [], harness := (true, "f36ee12b29d789e44a27b0544a9d4cd2c8ef171bb52bbe7b11a4579dfb13b299"), looks := false }, kinds := [], alts := [], laidByText := true, laidKinds := [.data, .pinned], laidTests := true, laidLooks := .later }
def FnExactTableTextUptoCardSaid : Prop := Claim7.holds Tryd.pinned (.plain (OpenSpec.upto fnExactTableTextSpec)) fnExactTableTextUptoCard

/-- THE SECOND FORM's CARD OF 'laws.FnExactBeginningPairs'. -/
def fnExactBeginningPairsUptoCard : Claim7 := { stood := { row := fnExactBeginningPairsUptoRow, standIns := [], harness := (true, "f36ee12b29d789e44a27b0544a9d4cd2c8ef171bb52bbe7b11a4579dfb13b299"), looks := false }, kinds := [], alts := [], laidByText := true, laidKinds := [.data, .pinned], laidTests := true, laidLooks := .later }
def FnExactBeginningPairsUptoCardSaid : Prop := Claim7.holds Tryd.pinned (.plain (OpenSpec.upto fnExactBeginningPairsSpec)) fnExactBeginningPairsUptoCard

/-- THE SECOND FORM's CARD OF 'laws.FnExactReadingAt'. -/
def fnExactReadingAtUptoCard : Claim7 := { stood := { row := fnExactReadingAtUptoRow, standIns := [], harness := (true, "f36ee12b29d789e44a27b0544a9d4cd2c8ef171bb52bbe7b11a4579dfb13b299"), looks := false }, kinds := [], alts := [], laidByText := true, laidKinds := [.data, .pinned], laidTests := true, laidLooks := .later }
def FnExactReadingAtUptoCardSaid : Prop := Claim7.holds Tryd.pinned (.plain (OpenSpec.upto fnExactReadingAtSpec)) fnExactReadingAtUptoCard
end Rows
end Go.Proofs.YtajocpgghdmimaaDoor
