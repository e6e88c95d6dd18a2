/-
  DERIVED. GIVEN WITH THE SEED: THE CARDS: each row of YtlfheofodhfbaaaDoorRows.lean that lists a variable, with what it lists TIED to the program's text (the seventh form; the later family's looks); each row that meets fmt, with fmt's text TOLD by the authors' own Lean function (tested against real Go, not proved from fmt's source: count such statements apart). THE CARD IS WHAT COUNTS. Prove the row's statement (the work); the ties are given (YtlfheofodhfbaaaDoorTie.lean); close each card by the builder's one call (the guide's Derived/Test/ToyasCard.lean, 'card_holds'). Laid BY PROGRAM, IN A SANDBOX (cutbox-door.mjs). By AI agents, Wed Nov 11 2026. No macro, syntax, notation, axiom, sorry.
-/
import Derived.Test.YtlfheofodhfbaaaDoorRows
import GoSem.ClaimSeven
namespace Go.Proofs.YtlfheofodhfbaaaDoor
namespace Rows

/-- THE TIED CARD OF 'laws.FnExactUnitOf'. -/
def fnExactUnitOfCard : Claim7 := { stood := { row := fnExactUnitOfRow, standIns := [], harness := (true, "70f08ab0eacd9c714177a7b06c2e960ad2641359bab0ed286490ee4f3d836676"), looks := false }, kinds := [], alts := [], laidByText := true, laidKinds := [.data, .pinned], laidTests := true, laidLooks := .later }
def FnExactUnitOfCardSaid : Prop := Claim7.holds Tryd.pinned (.plain (OpenSpec.ofChange fnExactUnitOfSpec)) fnExactUnitOfCard

/-- THE TIED CARD OF 'laws.FnExactStretchLine'. -/
def fnExactStretchLineCard : Claim7 := { stood := { row := fnExactStretchLineRow, standIns := [], harness := (true, "70f08ab0eacd9c714177a7b06c2e960ad2641359bab0ed286490ee4f3d836676"), looks := false }, kinds := [], alts := [], laidByText := true, laidKinds := [.data, .pinned], laidTests := true, laidLooks := .later }
def FnExactStretchLineCardSaid : Prop := Claim7.holds Tryd.pinned (.plain (OpenSpec.ofChange fnExactStretchLineSpec)) fnExactStretchLineCard

/-- THE TIED CARD OF 'laws.FnExactPlainLine'. -/
def fnExactPlainLineCard : Claim7 := { stood := { row := fnExactPlainLineRow, standIns := [], harness := (true, "70f08ab0eacd9c714177a7b06c2e960ad2641359bab0ed286490ee4f3d836676"), looks := false }, kinds := [], alts := [], laidByText := true, laidKinds := [.data, .pinned], laidTests := true, laidLooks := .later }
def FnExactPlainLineCardSaid : Prop := Claim7.holds Tryd.pinned (.plain (OpenSpec.ofChange fnExactPlainLineSpec)) fnExactPlainLineCard

/-- THE TIED CARD OF 'laws.FnExactRunsOf'. -/
def fnExactRunsOfCard : Claim7 := { stood := { row := fnExactRunsOfRow, standIns := [], harness := (true, "70f08ab0eacd9c714177a7b06c2e960ad2641359bab0ed286490ee4f3d836676"), looks := false }, kinds := [], alts := [], laidByText := true, laidKinds := [.data, .pinned], laidTests := true, laidLooks := .later }
def FnExactRunsOfCardSaid : Prop := Claim7.holds Tryd.pinned (.plain (OpenSpec.ofChange fnExactRunsOfSpec)) fnExactRunsOfCard

/-- THE SECOND FORM's CARD OF 'laws.FnExactUnitOf'. -/
def fnExactUnitOfUptoCard : Claim7 := { stood := { row := fnExactUnitOfUptoRow, standIns := [], harness := (true, "70f08ab0eacd9c714177a7b06c2e960ad2641359bab0ed286490ee4f3d836676"), looks := false }, kinds := [], alts := [], laidByText := true, laidKinds := [.data, .pinned], laidTests := true, laidLooks := .later }
def FnExactUnitOfUptoCardSaid : Prop := Claim7.holds Tryd.pinned (.plain (OpenSpec.upto fnExactUnitOfSpec)) fnExactUnitOfUptoCard

/-- THE SECOND FORM's CARD OF 'laws.FnExactStretchLine'. -/
def fnExactStretchLineUptoCard : Claim7 := { stood := { row := fnExactStretchLineUptoRow, standIns := [], harness := (true, "70f08ab0eacd9c714177a7b06c2e960ad2641359bab0ed286490ee4f3d836676"), looks := false }, kinds := [], alts := [], laidByText := true, laidKinds := [.data, .pinned], laidTests := true, laidLooks := .later }
def FnExactStretchLineUptoCardSaid : Prop := Claim7.holds Tryd.pinned (.plain (OpenSpec.upto fnExactStretchLineSpec)) fnExactStretchLineUptoCard

/-- THE SECOND FORM's CARD OF 'laws.FnExactPlainLine'. -/
def fnExactPlainLineUptoCard : Claim7 := { stood := { row := fnExactPlainLineUptoRow, standIns := [], harness := (true, "70f08ab0eacd9c714177a7b06c2e960ad2641359bab0ed286490ee4f3d836676"), looks := false }, kinds := [], alts := [], laidByText := true, laidKinds := [.data, .pinned], laidTests := true, laidLooks := .later }
def FnExactPlainLineUptoCardSaid : Prop := Claim7.holds Tryd.pinned (.plain (OpenSpec.upto fnExactPlainLineSpec)) fnExactPlainLineUptoCard

/-- THE SECOND FORM's CARD OF 'laws.FnExactRunsOf'. -/
def fnExactRunsOfUptoCard : Claim7 := { stood := { row := fnExactRunsOfUptoRow, standIns := [], harness := (true, "70f08ab0eacd9c714177a7b06c2e960ad2641359bab0ed286490ee4f3d836676"), looks := false }, kinds := [], alts := [], laidByText := true, laidKinds := [.data, .pinned], laidTests := true, laidLooks := .later }
def FnExactRunsOfUptoCardSaid : Prop := Claim7.holds Tryd.pinned (.plain (OpenSpec.upto fnExactRunsOfSpec)) fnExactRunsOfUptoCard
end Rows
end Go.Proofs.YtlfheofodhfbaaaDoor
