/-
  DERIVED. GIVEN WITH THE SEED: THE CARDS: each row of YtpdojionnmehbaaGreatDoorRows.lean that lists a variable, with what it lists TIED to the program's text (the seventh form; the later family's looks); each row that meets fmt, with fmt's text TOLD by the authors' own Lean function (tested against real Go, not proved from fmt's source: count such statements apart). THE CARD IS WHAT COUNTS. Prove the row's statement (the work); the ties are given (YtpdojionnmehbaaGreatDoorTie.lean); close each card by the builder's one call (the guide's Derived/Test/ToyasCard.lean, 'card_holds'). Laid BY PROGRAM, IN A SANDBOX (cutbox-door.mjs). By AI agents, Wed Nov 11 2026. No macro, syntax, notation, axiom, sorry.
-/
import Derived.Test.YtpdojionnmehbaaGreatDoorRows
import GoSem.ClaimSeven
namespace Go.Proofs.YtpdojionnmehbaaGreatDoor
namespace Rows

/-- THE TIED CARD OF 'laws.FnExactDoesMislead'. -/
def fnExactDoesMisleadCard : Claim7 := { stood := { row := fnExactDoesMisleadRow, standIns := [], harness := (true, "0051e34ff89610b91a7508a34c4a575ed8a7c80d8c316afbc3a985d54ba9155c"), looks := true }, kinds := [], alts := [], laidByText := true, laidKinds := [.data, .pinned], laidTests := true, laidLooks := .later }
def FnExactDoesMisleadCardSaid : Prop := Claim7.holds Tryz.pinned (.plain (OpenSpec.ofChange fnExactDoesMisleadSpec)) fnExactDoesMisleadCard

/-- THE TIED CARD OF 'laws.FnExactFirstMisleading'. -/
def fnExactFirstMisleadingCard : Claim7 := { stood := { row := fnExactFirstMisleadingRow, standIns := [], harness := (true, "0051e34ff89610b91a7508a34c4a575ed8a7c80d8c316afbc3a985d54ba9155c"), looks := true }, kinds := [], alts := [], laidByText := true, laidKinds := [.data, .pinned], laidTests := true, laidLooks := .later }
def FnExactFirstMisleadingCardSaid : Prop := Claim7.holds Tryz.pinned (.plain (OpenSpec.ofChange fnExactFirstMisleadingSpec)) fnExactFirstMisleadingCard

/-- THE TIED CARD OF 'laws.FnExactOppositeTable'. -/
def fnExactOppositeTableCard : Claim7 := { stood := { row := fnExactOppositeTableRow, standIns := [], harness := (true, "0051e34ff89610b91a7508a34c4a575ed8a7c80d8c316afbc3a985d54ba9155c"), looks := true }, kinds := [], alts := [], laidByText := true, laidKinds := [.data, .pinned], laidTests := true, laidLooks := .later }
def FnExactOppositeTableCardSaid : Prop := Claim7.holds Tryz.pinned (.plain (OpenSpec.ofChange fnExactOppositeTableSpec)) fnExactOppositeTableCard

/-- THE TIED CARD OF 'laws.FnExactBareOf'. -/
def fnExactBareOfCard : Claim7 := { stood := { row := fnExactBareOfRow, standIns := [], harness := (true, "0051e34ff89610b91a7508a34c4a575ed8a7c80d8c316afbc3a985d54ba9155c"), looks := true }, kinds := [], alts := [], laidByText := true, laidKinds := [.data, .listed, .data, .pinned], laidTests := true, laidLooks := .later }
def FnExactBareOfCardSaid : Prop := Claim7.holds Tryz.pinned (.plain (OpenSpec.ofChange fnExactBareOfSpec)) fnExactBareOfCard

/-- THE SECOND FORM's CARD OF 'laws.FnExactDoesMislead'. -/
def fnExactDoesMisleadUptoCard : Claim7 := { stood := { row := fnExactDoesMisleadUptoRow, standIns := [], harness := (true, "0051e34ff89610b91a7508a34c4a575ed8a7c80d8c316afbc3a985d54ba9155c"), looks := true }, kinds := [], alts := [], laidByText := true, laidKinds := [.data, .pinned], laidTests := true, laidLooks := .later }
def FnExactDoesMisleadUptoCardSaid : Prop := Claim7.holds Tryz.pinned (.plain (OpenSpec.upto fnExactDoesMisleadSpec)) fnExactDoesMisleadUptoCard

/-- THE SECOND FORM's CARD OF 'laws.FnExactFirstMisleading'. -/
def fnExactFirstMisleadingUptoCard : Claim7 := { stood := { row := fnExactFirstMisleadingUptoRow, standIns := [], harness := (true, "0051e34ff89610b91a7508a34c4a575ed8a7c80d8c316afbc3a985d54ba9155c"), looks := true }, kinds := [], alts := [], laidByText := true, laidKinds := [.data, .pinned], laidTests := true, laidLooks := .later }
def FnExactFirstMisleadingUptoCardSaid : Prop := Claim7.holds Tryz.pinned (.plain (OpenSpec.upto fnExactFirstMisleadingSpec)) fnExactFirstMisleadingUptoCard

/-- THE SECOND FORM's CARD OF 'laws.FnExactOppositeTable'. -/
def fnExactOppositeTableUptoCard : Claim7 := { stood := { row := fnExactOppositeTableUptoRow, standIns := [], harness := (true, "0051e34ff89610b91a7508a34c4a575ed8a7c80d8c316afbc3a985d54ba9155c"), looks := true }, kinds := [], alts := [], laidByText := true, laidKinds := [.data, .pinned], laidTests := true, laidLooks := .later }
def FnExactOppositeTableUptoCardSaid : Prop := Claim7.holds Tryz.pinned (.plain (OpenSpec.upto fnExactOppositeTableSpec)) fnExactOppositeTableUptoCard

/-- THE SECOND FORM's CARD OF 'laws.FnExactBareOf'. -/
def fnExactBareOfUptoCard : Claim7 := { stood := { row := fnExactBareOfUptoRow, standIns := [], harness := (true, "0051e34ff89610b91a7508a34c4a575ed8a7c80d8c316afbc3a985d54ba9155c"), looks := true }, kinds := [], alts := [], laidByText := true, laidKinds := [.data, .listed, .data, .pinned], laidTests := true, laidLooks := .later }
def FnExactBareOfUptoCardSaid : Prop := Claim7.holds Tryz.pinned (.plain (OpenSpec.upto fnExactBareOfSpec)) fnExactBareOfUptoCard
end Rows
end Go.Proofs.YtpdojionnmehbaaGreatDoor
