/-
  DERIVED. GIVEN WITH THE SEED: THE CARDS: each row of YtbdagfdhkobbcaaDoorRows.lean that lists a variable, with what it lists TIED to the program's text (the seventh form; the later family's looks); each row that meets fmt, with fmt's text TOLD by the authors' own Lean function (tested against real Go, not proved from fmt's source: count such statements apart). THE CARD IS WHAT COUNTS. Prove the row's statement (the work); the ties are given (YtbdagfdhkobbcaaDoorTie.lean); close each card by the builder's one call (the guide's Derived/Test/ToyasCard.lean, 'card_holds'). Laid BY PROGRAM, IN A SANDBOX (cutbox-door.mjs). By AI agents, Wed Nov 11 2026. No macro, syntax, notation, axiom, sorry.
-/
import Derived.Test.YtbdagfdhkobbcaaDoorRows
import GoSem.ClaimSeven
namespace Go.Proofs.YtbdagfdhkobbcaaDoor
namespace Rows

/-- THE TIED CARD OF 'laws.FnExactLineOf'. -/
def fnExactLineOfCard : Claim7 := { stood := { row := fnExactLineOfRow, standIns := [], harness := (true, "5e7cb906fa651d108ad8b446e56c6ed46aa0d1dba3387a1ecc066526f28ec041"), looks := false }, kinds := [], alts := [], laidByText := true, laidKinds := [.data, .pinned], laidTests := true, laidLooks := .later }
def FnExactLineOfCardSaid : Prop := Claim7.holds Tryd.pinned (.plain (OpenSpec.ofChange fnExactLineOfSpec)) fnExactLineOfCard

/-- THE TIED CARD OF 'laws.FnExactSignalOf'. -/
def fnExactSignalOfCard : Claim7 := { stood := { row := fnExactSignalOfRow, standIns := [], harness := (true, "5e7cb906fa651d108ad8b446e56c6ed46aa0d1dba3387a1ecc066526f28ec041"), looks := false }, kinds := [], alts := [], laidByText := true, laidKinds := [.data, .pinned], laidTests := true, laidLooks := .later }
def FnExactSignalOfCardSaid : Prop := Claim7.holds Tryd.pinned (.plain (OpenSpec.ofChange fnExactSignalOfSpec)) fnExactSignalOfCard

/-- THE TIED CARD OF 'laws.FnExactReadLine'. -/
def fnExactReadLineCard : Claim7 := { stood := { row := fnExactReadLineRow, standIns := [], harness := (true, "5e7cb906fa651d108ad8b446e56c6ed46aa0d1dba3387a1ecc066526f28ec041"), looks := false }, kinds := [], alts := [], laidByText := true, laidKinds := [.data, .pinned], laidTests := true, laidLooks := .later }
def FnExactReadLineCardSaid : Prop := Claim7.holds Tryd.pinned (.plain (OpenSpec.ofChange fnExactReadLineSpec)) fnExactReadLineCard

/-- THE TIED CARD OF 'laws.FnExactEncodeMessage'. -/
def fnExactEncodeMessageCard : Claim7 := { stood := { row := fnExactEncodeMessageRow, standIns := [], harness := (true, "5e7cb906fa651d108ad8b446e56c6ed46aa0d1dba3387a1ecc066526f28ec041"), looks := false }, kinds := [], alts := [], laidByText := true, laidKinds := [.data, .listed, .data, .pinned], laidTests := true, laidLooks := .later }
def FnExactEncodeMessageCardSaid : Prop := Claim7.holds Tryd.pinned (.plain (OpenSpec.ofChange fnExactEncodeMessageSpec)) fnExactEncodeMessageCard

/-- THE TIED CARD OF 'laws.FnExactTimeOfMessage'. -/
def fnExactTimeOfMessageCard : Claim7 := { stood := { row := fnExactTimeOfMessageRow, standIns := [], harness := (true, "5e7cb906fa651d108ad8b446e56c6ed46aa0d1dba3387a1ecc066526f28ec041"), looks := false }, kinds := [], alts := [], laidByText := true, laidKinds := [.data, .listed, .data, .pinned], laidTests := true, laidLooks := .later }
def FnExactTimeOfMessageCardSaid : Prop := Claim7.holds Tryd.pinned (.plain (OpenSpec.ofChange fnExactTimeOfMessageSpec)) fnExactTimeOfMessageCard

/-- THE TIED CARD OF 'laws.FnExactCountMarks'. -/
def fnExactCountMarksCard : Claim7 := { stood := { row := fnExactCountMarksRow, standIns := [], harness := (true, "5e7cb906fa651d108ad8b446e56c6ed46aa0d1dba3387a1ecc066526f28ec041"), looks := false }, kinds := [], alts := [], laidByText := true, laidKinds := [.data, .listed, .data, .pinned], laidTests := true, laidLooks := .later }
def FnExactCountMarksCardSaid : Prop := Claim7.holds Tryd.pinned (.plain (OpenSpec.ofChange fnExactCountMarksSpec)) fnExactCountMarksCard

/-- THE SECOND FORM's CARD OF 'laws.FnExactLineOf'. -/
def fnExactLineOfUptoCard : Claim7 := { stood := { row := fnExactLineOfUptoRow, standIns := [], harness := (true, "5e7cb906fa651d108ad8b446e56c6ed46aa0d1dba3387a1ecc066526f28ec041"), looks := false }, kinds := [], alts := [], laidByText := true, laidKinds := [.data, .pinned], laidTests := true, laidLooks := .later }
def FnExactLineOfUptoCardSaid : Prop := Claim7.holds Tryd.pinned (.plain (OpenSpec.upto fnExactLineOfSpec)) fnExactLineOfUptoCard

/-- THE SECOND FORM's CARD OF 'laws.FnExactSignalOf'. -/
def fnExactSignalOfUptoCard : Claim7 := { stood := { row := fnExactSignalOfUptoRow, standIns := [], harness := (true, "5e7cb906fa651d108ad8b446e56c6ed46aa0d1dba3387a1ecc066526f28ec041"), looks := false }, kinds := [], alts := [], laidByText := true, laidKinds := [.data, .pinned], laidTests := true, laidLooks := .later }
def FnExactSignalOfUptoCardSaid : Prop := Claim7.holds Tryd.pinned (.plain (OpenSpec.upto fnExactSignalOfSpec)) fnExactSignalOfUptoCard

/-- THE SECOND FORM's CARD OF 'laws.FnExactReadLine'. -/
def fnExactReadLineUptoCard : Claim7 := { stood := { row := fnExactReadLineUptoRow, standIns := [], harness := (true, "5e7cb906fa651d108ad8b446e56c6ed46aa0d1dba3387a1ecc066526f28ec041"), looks := false }, kinds := [], alts := [], laidByText := true, laidKinds := [.data, .pinned], laidTests := true, laidLooks := .later }
def FnExactReadLineUptoCardSaid : Prop := Claim7.holds Tryd.pinned (.plain (OpenSpec.upto fnExactReadLineSpec)) fnExactReadLineUptoCard

/-- THE SECOND FORM's CARD OF 'laws.FnExactEncodeMessage'. -/
def fnExactEncodeMessageUptoCard : Claim7 := { stood := { row := fnExactEncodeMessageUptoRow, standIns := [], harness := (true, "5e7cb906fa651d108ad8b446e56c6ed46aa0d1dba3387a1ecc066526f28ec041"), looks := false }, kinds := [], alts := [], laidByText := true, laidKinds := [.data, .listed, .data, .pinned], laidTests := true, laidLooks := .later }
def FnExactEncodeMessageUptoCardSaid : Prop := Claim7.holds Tryd.pinned (.plain (OpenSpec.upto fnExactEncodeMessageSpec)) fnExactEncodeMessageUptoCard

/-- THE SECOND FORM's CARD OF 'laws.FnExactTimeOfMessage'. -/
def fnExactTimeOfMessageUptoCard : Claim7 := { stood := { row := fnExactTimeOfMessageUptoRow, standIns := [], harness := (true, "5e7cb906fa651d108ad8b446e56c6ed46aa0d1dba3387a1ecc066526f28ec041"), looks := false }, kinds := [], alts := [], laidByText := true, laidKinds := [.data, .listed, .data, .pinned], laidTests := true, laidLooks := .later }
def FnExactTimeOfMessageUptoCardSaid : Prop := Claim7.holds Tryd.pinned (.plain (OpenSpec.upto fnExactTimeOfMessageSpec)) fnExactTimeOfMessageUptoCard

/-- THE SECOND FORM's CARD OF 'laws.FnExactCountMarks'. -/
def fnExactCountMarksUptoCard : Claim7 := { stood := { row := fnExactCountMarksUptoRow, standIns := [], harness := (true, "5e7cb906fa651d108ad8b446e56c6ed46aa0d1dba3387a1ecc066526f28ec041"), looks := false }, kinds := [], alts := [], laidByText := true, laidKinds := [.data, .listed, .data, .pinned], laidTests := true, laidLooks := .later }
def FnExactCountMarksUptoCardSaid : Prop := Claim7.holds Tryd.pinned (.plain (OpenSpec.upto fnExactCountMarksSpec)) fnExactCountMarksUptoCard
end Rows
end Go.Proofs.YtbdagfdhkobbcaaDoor
