/-
  DERIVED. GIVEN WITH THE SEED: THE CARDS: each row of YtdmeeajeecnheaaDoorRows.lean that lists a variable, with what it lists TIED to the program's text (the seventh form; the later family's looks); each row that meets fmt, with fmt's text TOLD by the authors' own Lean function (tested against real Go, not proved from fmt's source: count such statements apart). THE CARD IS WHAT COUNTS. Prove the row's statement (the work); the ties are given (YtdmeeajeecnheaaDoorTie.lean); close each card by the builder's one call (the guide's Derived/Test/ToyasCard.lean, 'card_holds'). Laid BY PROGRAM, IN A SANDBOX (cutbox-door.mjs). By AI agents, Wed Nov 11 2026. No macro, syntax, notation, axiom, sorry.
-/
import Derived.Test.YtdmeeajeecnheaaDoorRows
import GoSem.ClaimSeven
namespace Go.Proofs.YtdmeeajeecnheaaDoor
namespace Rows

/-- THE TIED CARD OF 'laws.FnExactRankOfReading'. -/
def fnExactRankOfReadingCard : Claim7 := { stood := { row := fnExactRankOfReadingRow, standIns := [], harness := (true, "2c016a532dac157a5a57aa8cb4da99ebed86e9333d7eafb3513dca60bcdace42"), looks := false }, kinds := [], alts := [], laidByText := true, laidKinds := [.data, .pinned], laidTests := true, laidLooks := .later }
def FnExactRankOfReadingCardSaid : Prop := Claim7.holds Tryd.pinned (.plain (OpenSpec.ofChange fnExactRankOfReadingSpec)) fnExactRankOfReadingCard

/-- THE TIED CARD OF 'laws.FnExactBordersOf'. -/
def fnExactBordersOfCard : Claim7 := { stood := { row := fnExactBordersOfRow, standIns := [], harness := (true, "2c016a532dac157a5a57aa8cb4da99ebed86e9333d7eafb3513dca60bcdace42"), looks := false }, kinds := [], alts := [], laidByText := true, laidKinds := [.data, .pinned], laidTests := true, laidLooks := .later }
def FnExactBordersOfCardSaid : Prop := Claim7.holds Tryd.pinned (.plain (OpenSpec.ofChange fnExactBordersOfSpec)) fnExactBordersOfCard

/-- THE TIED CARD OF 'laws.FnExactCertainBorders'. -/
def fnExactCertainBordersCard : Claim7 := { stood := { row := fnExactCertainBordersRow, standIns := [], harness := (true, "2c016a532dac157a5a57aa8cb4da99ebed86e9333d7eafb3513dca60bcdace42"), looks := false }, kinds := [], alts := [], laidByText := true, laidKinds := [.data, .pinned], laidTests := true, laidLooks := .later }
def FnExactCertainBordersCardSaid : Prop := Claim7.holds Tryd.pinned (.plain (OpenSpec.ofChange fnExactCertainBordersSpec)) fnExactCertainBordersCard

/-- THE TIED CARD OF 'laws.FnExactLongestReading'. -/
def fnExactLongestReadingCard : Claim7 := { stood := { row := fnExactLongestReadingRow, standIns := [], harness := (true, "2c016a532dac157a5a57aa8cb4da99ebed86e9333d7eafb3513dca60bcdace42"), looks := false }, kinds := [], alts := [], laidByText := true, laidKinds := [.data, .pinned], laidTests := true, laidLooks := .later }
def FnExactLongestReadingCardSaid : Prop := Claim7.holds Tryd.pinned (.plain (OpenSpec.ofChange fnExactLongestReadingSpec)) fnExactLongestReadingCard

/-- THE TIED CARD OF 'laws.FnExactShortestReading'. -/
def fnExactShortestReadingCard : Claim7 := { stood := { row := fnExactShortestReadingRow, standIns := [], harness := (true, "2c016a532dac157a5a57aa8cb4da99ebed86e9333d7eafb3513dca60bcdace42"), looks := false }, kinds := [], alts := [], laidByText := true, laidKinds := [.data, .pinned], laidTests := true, laidLooks := .later }
def FnExactShortestReadingCardSaid : Prop := Claim7.holds Tryd.pinned (.plain (OpenSpec.ofChange fnExactShortestReadingSpec)) fnExactShortestReadingCard

/-- THE TIED CARD OF 'laws.FnExactParseTable'. -/
def fnExactParseTableCard : Claim7 := { stood := { row := fnExactParseTableRow, standIns := [], harness := (true, "2c016a532dac157a5a57aa8cb4da99ebed86e9333d7eafb3513dca60bcdace42"), looks := false }, kinds := [], alts := [], laidByText := true, laidKinds := [.data, .pinned], laidTests := true, laidLooks := .later }
def FnExactParseTableCardSaid : Prop := Claim7.holds Tryd.pinned (.plain (OpenSpec.ofChange fnExactParseTableSpec)) fnExactParseTableCard

/-- THE TIED CARD OF 'laws.FnExactEncodeMessage'. -/
def fnExactEncodeMessageCard : Claim7 := { stood := { row := fnExactEncodeMessageRow, standIns := [], harness := (true, "2c016a532dac157a5a57aa8cb4da99ebed86e9333d7eafb3513dca60bcdace42"), looks := false }, kinds := [], alts := [], laidByText := true, laidKinds := [.data, .listed, .data, .pinned], laidTests := true, laidLooks := .later }
def FnExactEncodeMessageCardSaid : Prop := Claim7.holds Tryd.pinned (.plain (OpenSpec.ofChange fnExactEncodeMessageSpec)) fnExactEncodeMessageCard

/-- THE TIED CARD OF 'laws.FnExactCountMarks'. -/
def fnExactCountMarksCard : Claim7 := { stood := { row := fnExactCountMarksRow, standIns := [], harness := (true, "2c016a532dac157a5a57aa8cb4da99ebed86e9333d7eafb3513dca60bcdace42"), looks := false }, kinds := [], alts := [], laidByText := true, laidKinds := [.data, .listed, .data, .pinned], laidTests := true, laidLooks := .later }
def FnExactCountMarksCardSaid : Prop := Claim7.holds Tryd.pinned (.plain (OpenSpec.ofChange fnExactCountMarksSpec)) fnExactCountMarksCard

/-- THE TIED CARD OF 'laws.FnExactTimeOfMessage'. -/
def fnExactTimeOfMessageCard : Claim7 := { stood := { row := fnExactTimeOfMessageRow, standIns := [], harness := (true, "2c016a532dac157a5a57aa8cb4da99ebed86e9333d7eafb3513dca60bcdace42"), looks := false }, kinds := [], alts := [], laidByText := true, laidKinds := [.data, .listed, .data, .pinned], laidTests := true, laidLooks := .later }
def FnExactTimeOfMessageCardSaid : Prop := Claim7.holds Tryd.pinned (.plain (OpenSpec.ofChange fnExactTimeOfMessageSpec)) fnExactTimeOfMessageCard

/-- THE SECOND FORM's CARD OF 'laws.FnExactRankOfReading'. -/
def fnExactRankOfReadingUptoCard : Claim7 := { stood := { row := fnExactRankOfReadingUptoRow, standIns := [], harness := (true, "2c016a532dac157a5a57aa8cb4da99ebed86e9333d7eafb3513dca60bcdace42"), looks := false }, kinds := [], alts := [], laidByText := true, laidKinds := [.data, .pinned], laidTests := true, laidLooks := .later }
def FnExactRankOfReadingUptoCardSaid : Prop := Claim7.holds Tryd.pinned (.plain (OpenSpec.upto fnExactRankOfReadingSpec)) fnExactRankOfReadingUptoCard

/-- THE SECOND FORM's CARD OF 'laws.FnExactBordersOf'. -/
def fnExactBordersOfUptoCard : Claim7 := { stood := { row := fnExactBordersOfUptoRow, standIns := [], harness := (true, "2c016a532dac157a5a57aa8cb4da99ebed86e9333d7eafb3513dca60bcdace42"), looks := false }, kinds := [], alts := [], laidByText := true, laidKinds := [.data, .pinned], laidTests := true, laidLooks := .later }
def FnExactBordersOfUptoCardSaid : Prop := Claim7.holds Tryd.pinned (.plain (OpenSpec.upto fnExactBordersOfSpec)) fnExactBordersOfUptoCard

/-- THE SECOND FORM's CARD OF 'laws.FnExactCertainBorders'. -/
def fnExactCertainBordersUptoCard : Claim7 := { stood := { row := fnExactCertainBordersUptoRow, standIns := [], harness := (true, "2c016a532dac157a5a57aa8cb4da99ebed86e9333d7eafb3513dca60bcdace42"), looks := false }, kinds := [], alts := [], laidByText := true, laidKinds := [.data, .pinned], laidTests := true, laidLooks := .later }
def FnExactCertainBordersUptoCardSaid : Prop := Claim7.holds Tryd.pinned (.plain (OpenSpec.upto fnExactCertainBordersSpec)) fnExactCertainBordersUptoCard

/-- THE SECOND FORM's CARD OF 'laws.FnExactLongestReading'. -/
def fnExactLongestReadingUptoCard : Claim7 := { stood := { row := fnExactLongestReadingUptoRow, standIns := [], harness := (true, "2c016a532dac157a5a57aa8cb4da99ebed86e9333d7eafb3513dca60bcdace42"), looks := false }, kinds := [], alts := [], laidByText := true, laidKinds := [.data, .pinned], laidTests := true, laidLooks := .later }
def FnExactLongestReadingUptoCardSaid : Prop := Claim7.holds Tryd.pinned (.plain (OpenSpec.upto fnExactLongestReadingSpec)) fnExactLongestReadingUptoCard

/-- THE SECOND FORM's CARD OF 'laws.FnExactShortestReading'. -/
def fnExactShortestReadingUptoCard : Claim7 := { stood := { row := fnExactShortestReadingUptoRow, standIns := [], harness := (true, "2c016a532dac157a5a57aa8cb4da99ebed86e9333d7eafb3513dca60bcdace42"), looks := false }, kinds := [], alts := [], laidByText := true, laidKinds := [.data, .pinned], laidTests := true, laidLooks := .later }
def FnExactShortestReadingUptoCardSaid : Prop := Claim7.holds Tryd.pinned (.plain (OpenSpec.upto fnExactShortestReadingSpec)) fnExactShortestReadingUptoCard

/-- THE SECOND FORM's CARD OF 'laws.FnExactParseTable'. -/
def fnExactParseTableUptoCard : Claim7 := { stood := { row := fnExactParseTableUptoRow, standIns := [], harness := (true, "2c016a532dac157a5a57aa8cb4da99ebed86e9333d7eafb3513dca60bcdace42"), looks := false }, kinds := [], alts := [], laidByText := true, laidKinds := [.data, .pinned], laidTests := true, laidLooks := .later }
def FnExactParseTableUptoCardSaid : Prop := Claim7.holds Tryd.pinned (.plain (OpenSpec.upto fnExactParseTableSpec)) fnExactParseTableUptoCard

/-- THE SECOND FORM's CARD OF 'laws.FnExactEncodeMessage'. -/
def fnExactEncodeMessageUptoCard : Claim7 := { stood := { row := fnExactEncodeMessageUptoRow, standIns := [], harness := (true, "2c016a532dac157a5a57aa8cb4da99ebed86e9333d7eafb3513dca60bcdace42"), looks := false }, kinds := [], alts := [], laidByText := true, laidKinds := [.data, .listed, .data, .pinned], laidTests := true, laidLooks := .later }
def FnExactEncodeMessageUptoCardSaid : Prop := Claim7.holds Tryd.pinned (.plain (OpenSpec.upto fnExactEncodeMessageSpec)) fnExactEncodeMessageUptoCard

/-- THE SECOND FORM's CARD OF 'laws.FnExactCountMarks'. -/
def fnExactCountMarksUptoCard : Claim7 := { stood := { row := fnExactCountMarksUptoRow, standIns := [], harness := (true, "2c016a532dac157a5a57aa8cb4da99ebed86e9333d7eafb3513dca60bcdace42"), looks := false }, kinds := [], alts := [], laidByText := true, laidKinds := [.data, .listed, .data, .pinned], laidTests := true, laidLooks := .later }
def FnExactCountMarksUptoCardSaid : Prop := Claim7.holds Tryd.pinned (.plain (OpenSpec.upto fnExactCountMarksSpec)) fnExactCountMarksUptoCard

/-- THE SECOND FORM's CARD OF 'laws.FnExactTimeOfMessage'. -/
def fnExactTimeOfMessageUptoCard : Claim7 := { stood := { row := fnExactTimeOfMessageUptoRow, standIns := [], harness := (true, "2c016a532dac157a5a57aa8cb4da99ebed86e9333d7eafb3513dca60bcdace42"), looks := false }, kinds := [], alts := [], laidByText := true, laidKinds := [.data, .listed, .data, .pinned], laidTests := true, laidLooks := .later }
def FnExactTimeOfMessageUptoCardSaid : Prop := Claim7.holds Tryd.pinned (.plain (OpenSpec.upto fnExactTimeOfMessageSpec)) fnExactTimeOfMessageUptoCard
end Rows
end Go.Proofs.YtdmeeajeecnheaaDoor
