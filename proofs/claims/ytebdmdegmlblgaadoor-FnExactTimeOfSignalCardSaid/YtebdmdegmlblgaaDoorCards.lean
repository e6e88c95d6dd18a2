/-
  DERIVED. GIVEN WITH THE SEED: THE CARDS: each row of YtebdmdegmlblgaaDoorRows.lean that lists a variable, with what it lists TIED to the program's text (the seventh form; the later family's looks); each row that meets fmt, with fmt's text TOLD by the authors' own Lean function (tested against real Go, not proved from fmt's source: count such statements apart). THE CARD IS WHAT COUNTS. Prove the row's statement (the work); the ties are given (YtebdmdegmlblgaaDoorTie.lean); close each card by the builder's one call (the guide's Derived/Test/ToyasCard.lean, 'card_holds'). Laid BY PROGRAM, IN A SANDBOX (cutbox-door.mjs). By AI agents, Wed Nov 11 2026. No macro, syntax, notation, axiom, sorry.
-/
import Derived.Test.YtebdmdegmlblgaaDoorRows
import GoSem.ClaimSeven
namespace Go.Proofs.YtebdmdegmlblgaaDoor
namespace Rows

/-- THE TIED CARD OF 'laws.FnExactIsSignal'. -/
def fnExactIsSignalCard : Claim7 := { stood := { row := fnExactIsSignalRow, standIns := [], harness := (true, "9bccf9118b29180533802a68a23866b5daeb4bc028c4bca2bf97d7cc77305ff6"), looks := false }, kinds := [], alts := [], laidByText := true, laidKinds := [.data, .pinned], laidTests := true, laidLooks := .later }
def FnExactIsSignalCardSaid : Prop := Claim7.holds Tryd.pinned (.plain (OpenSpec.ofChange fnExactIsSignalSpec)) fnExactIsSignalCard

/-- THE TIED CARD OF 'laws.FnExactTimeOfSignal'. -/
def fnExactTimeOfSignalCard : Claim7 := { stood := { row := fnExactTimeOfSignalRow, standIns := [], harness := (true, "9bccf9118b29180533802a68a23866b5daeb4bc028c4bca2bf97d7cc77305ff6"), looks := false }, kinds := [], alts := [], laidByText := true, laidKinds := [.data, .pinned], laidTests := true, laidLooks := .later }
def FnExactTimeOfSignalCardSaid : Prop := Claim7.holds Tryd.pinned (.plain (OpenSpec.ofChange fnExactTimeOfSignalSpec)) fnExactTimeOfSignalCard

/-- THE TIED CARD OF 'laws.FnExactReadTrace'. -/
def fnExactReadTraceCard : Claim7 := { stood := { row := fnExactReadTraceRow, standIns := [], harness := (true, "9bccf9118b29180533802a68a23866b5daeb4bc028c4bca2bf97d7cc77305ff6"), looks := false }, kinds := [], alts := [], laidByText := true, laidKinds := [.data, .pinned], laidTests := true, laidLooks := .later }
def FnExactReadTraceCardSaid : Prop := Claim7.holds Tryd.pinned (.plain (OpenSpec.ofChange fnExactReadTraceSpec)) fnExactReadTraceCard

/-- THE TIED CARD OF 'laws.FnExactLineOf'. -/
def fnExactLineOfCard : Claim7 := { stood := { row := fnExactLineOfRow, standIns := [], harness := (true, "9bccf9118b29180533802a68a23866b5daeb4bc028c4bca2bf97d7cc77305ff6"), looks := false }, kinds := [], alts := [], laidByText := true, laidKinds := [.data, .pinned], laidTests := true, laidLooks := .later }
def FnExactLineOfCardSaid : Prop := Claim7.holds Tryd.pinned (.plain (OpenSpec.ofChange fnExactLineOfSpec)) fnExactLineOfCard

/-- THE TIED CARD OF 'laws.FnExactSignalOf'. -/
def fnExactSignalOfCard : Claim7 := { stood := { row := fnExactSignalOfRow, standIns := [], harness := (true, "9bccf9118b29180533802a68a23866b5daeb4bc028c4bca2bf97d7cc77305ff6"), looks := false }, kinds := [], alts := [], laidByText := true, laidKinds := [.data, .pinned], laidTests := true, laidLooks := .later }
def FnExactSignalOfCardSaid : Prop := Claim7.holds Tryd.pinned (.plain (OpenSpec.ofChange fnExactSignalOfSpec)) fnExactSignalOfCard

/-- THE TIED CARD OF 'laws.FnExactDecodeSignal'. -/
def fnExactDecodeSignalCard : Claim7 := { stood := { row := fnExactDecodeSignalRow, standIns := [], harness := (true, "9bccf9118b29180533802a68a23866b5daeb4bc028c4bca2bf97d7cc77305ff6"), looks := false }, kinds := [], alts := [], laidByText := true, laidKinds := [.data, .pinned], laidTests := true, laidLooks := .later }
def FnExactDecodeSignalCardSaid : Prop := Claim7.holds Tryd.pinned (.plain (OpenSpec.ofChange fnExactDecodeSignalSpec)) fnExactDecodeSignalCard

/-- THE TIED CARD OF 'laws.FnExactReadLine'. -/
def fnExactReadLineCard : Claim7 := { stood := { row := fnExactReadLineRow, standIns := [], harness := (true, "9bccf9118b29180533802a68a23866b5daeb4bc028c4bca2bf97d7cc77305ff6"), looks := false }, kinds := [], alts := [], laidByText := true, laidKinds := [.data, .pinned], laidTests := true, laidLooks := .later }
def FnExactReadLineCardSaid : Prop := Claim7.holds Tryd.pinned (.plain (OpenSpec.ofChange fnExactReadLineSpec)) fnExactReadLineCard

/-- THE SECOND FORM's CARD OF 'laws.FnExactIsSignal'. -/
def fnExactIsSignalUptoCard : Claim7 := { stood := { row := fnExactIsSignalUptoRow, standIns := [], harness := (true, "9bccf9118b29180533802a68a23866b5daeb4bc028c4bca2bf97d7cc77305ff6"), looks := false }, kinds := [], alts := [], laidByText := true, laidKinds := [.data, .pinned], laidTests := true, laidLooks := .later }
def FnExactIsSignalUptoCardSaid : Prop := Claim7.holds Tryd.pinned (.plain (OpenSpec.upto fnExactIsSignalSpec)) fnExactIsSignalUptoCard

/-- THE SECOND FORM's CARD OF 'laws.FnExactTimeOfSignal'. -/
def fnExactTimeOfSignalUptoCard : Claim7 := { stood := { row := fnExactTimeOfSignalUptoRow, standIns := [], harness := (true, "9bccf9118b29180533802a68a23866b5daeb4bc028c4bca2bf97d7cc77305ff6"), looks := false }, kinds := [], alts := [], laidByText := true, laidKinds := [.data, .pinned], laidTests := true, laidLooks := .later }
def FnExactTimeOfSignalUptoCardSaid : Prop := Claim7.holds Tryd.pinned (.plain (OpenSpec.upto fnExactTimeOfSignalSpec)) fnExactTimeOfSignalUptoCard

/-- THE SECOND FORM's CARD OF 'laws.FnExactReadTrace'. -/
def fnExactReadTraceUptoCard : Claim7 := { stood := { row := fnExactReadTraceUptoRow, standIns := [], harness := (true, "9bccf9118b29180533802a68a23866b5daeb4bc028c4bca2bf97d7cc77305ff6"), looks := false }, kinds := [], alts := [], laidByText := true, laidKinds := [.data, .pinned], laidTests := true, laidLooks := .later }
def FnExactReadTraceUptoCardSaid : Prop := Claim7.holds Tryd.pinned (.plain (OpenSpec.upto fnExactReadTraceSpec)) fnExactReadTraceUptoCard

/-- THE SECOND FORM's CARD OF 'laws.FnExactLineOf'. -/
def fnExactLineOfUptoCard : Claim7 := { stood := { row := fnExactLineOfUptoRow, standIns := [], harness := (true, "9bccf9118b29180533802a68a23866b5daeb4bc028c4bca2bf97d7cc77305ff6"), looks := false }, kinds := [], alts := [], laidByText := true, laidKinds := [.data, .pinned], laidTests := true, laidLooks := .later }
def FnExactLineOfUptoCardSaid : Prop := Claim7.holds Tryd.pinned (.plain (OpenSpec.upto fnExactLineOfSpec)) fnExactLineOfUptoCard

/-- THE SECOND FORM's CARD OF 'laws.FnExactSignalOf'. -/
def fnExactSignalOfUptoCard : Claim7 := { stood := { row := fnExactSignalOfUptoRow, standIns := [], harness := (true, "9bccf9118b29180533802a68a23866b5daeb4bc028c4bca2bf97d7cc77305ff6"), looks := false }, kinds := [], alts := [], laidByText := true, laidKinds := [.data, .pinned], laidTests := true, laidLooks := .later }
def FnExactSignalOfUptoCardSaid : Prop := Claim7.holds Tryd.pinned (.plain (OpenSpec.upto fnExactSignalOfSpec)) fnExactSignalOfUptoCard

/-- THE SECOND FORM's CARD OF 'laws.FnExactDecodeSignal'. -/
def fnExactDecodeSignalUptoCard : Claim7 := { stood := { row := fnExactDecodeSignalUptoRow, standIns := [], harness := (true, "9bccf9118b29180533802a68a23866b5daeb4bc028c4bca2bf97d7cc77305ff6"), looks := false }, kinds := [], alts := [], laidByText := true, laidKinds := [.data, .pinned], laidTests := true, laidLooks := .later }
def FnExactDecodeSignalUptoCardSaid : Prop := Claim7.holds Tryd.pinned (.plain (OpenSpec.upto fnExactDecodeSignalSpec)) fnExactDecodeSignalUptoCard

/-- THE SECOND FORM's CARD OF 'laws.FnExactReadLine'. -/
def fnExactReadLineUptoCard : Claim7 := { stood := { row := fnExactReadLineUptoRow, standIns := [], harness := (true, "9bccf9118b29180533802a68a23866b5daeb4bc028c4bca2bf97d7cc77305ff6"), looks := false }, kinds := [], alts := [], laidByText := true, laidKinds := [.data, .pinned], laidTests := true, laidLooks := .later }
def FnExactReadLineUptoCardSaid : Prop := Claim7.holds Tryd.pinned (.plain (OpenSpec.upto fnExactReadLineSpec)) fnExactReadLineUptoCard
end Rows
end Go.Proofs.YtebdmdegmlblgaaDoor
