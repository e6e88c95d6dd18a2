/-
  DERIVED. GIVEN WITH THE SEED: THE CARDS: each row of YtppnajkkhemopaaDoorRows.lean that lists a variable, with what it lists TIED to the program's text (the seventh form; the later family's looks); each row that meets fmt, with fmt's text TOLD by the authors' own Lean function (tested against real Go, not proved from fmt's source: count such statements apart). THE CARD IS WHAT COUNTS. Prove the row's statement (the work); the ties are given (YtppnajkkhemopaaDoorTie.lean); close each card by the builder's one call (the guide's Derived/Test/ToyasCard.lean, 'card_holds'). Laid BY PROGRAM, IN A SANDBOX (cutbox-door.mjs). By AI agents, Wed Nov 11 2026. No macro, syntax, notation, axiom, sorry.
-/
import Derived.Test.YtppnajkkhemopaaDoorRows
import GoSem.ClaimSeven
namespace Go.Proofs.YtppnajkkhemopaaDoor
namespace Rows

/-- THE TIED CARD OF 'laws.FnExactSplitString'. -/
def fnExactSplitStringCard : Claim7 := { stood := { row := fnExactSplitStringRow, standIns := [], harness := (true, "0e792ce7d6e6e2f2d445d34b0f83711db8685c5643530eeaa67c6f7bdd846522"), looks := false }, kinds := [], alts := [], laidByText := true, laidKinds := [.data, .pinned], laidTests := true, laidLooks := .later }
def FnExactSplitStringCardSaid : Prop := Claim7.holds Tryd.pinned (.plain (OpenSpec.ofChange fnExactSplitStringSpec)) fnExactSplitStringCard

/-- THE TIED CARD OF 'laws.FnExactIsBare'. -/
def fnExactIsBareCard : Claim7 := { stood := { row := fnExactIsBareRow, standIns := [], harness := (true, "0e792ce7d6e6e2f2d445d34b0f83711db8685c5643530eeaa67c6f7bdd846522"), looks := false }, kinds := [], alts := [], laidByText := true, laidKinds := [.data, .pinned], laidTests := true, laidLooks := .later }
def FnExactIsBareCardSaid : Prop := Claim7.holds Tryd.pinned (.plain (OpenSpec.ofChange fnExactIsBareSpec)) fnExactIsBareCard

/-- THE TIED CARD OF 'laws.FnExactTimeOfMarks'. -/
def fnExactTimeOfMarksCard : Claim7 := { stood := { row := fnExactTimeOfMarksRow, standIns := [], harness := (true, "0e792ce7d6e6e2f2d445d34b0f83711db8685c5643530eeaa67c6f7bdd846522"), looks := false }, kinds := [], alts := [], laidByText := true, laidKinds := [.data, .pinned], laidTests := true, laidLooks := .later }
def FnExactTimeOfMarksCardSaid : Prop := Claim7.holds Tryd.pinned (.plain (OpenSpec.ofChange fnExactTimeOfMarksSpec)) fnExactTimeOfMarksCard

/-- THE SECOND FORM's CARD OF 'laws.FnExactSplitString'. -/
def fnExactSplitStringUptoCard : Claim7 := { stood := { row := fnExactSplitStringUptoRow, standIns := [], harness := (true, "0e792ce7d6e6e2f2d445d34b0f83711db8685c5643530eeaa67c6f7bdd846522"), looks := false }, kinds := [], alts := [], laidByText := true, laidKinds := [.data, .pinned], laidTests := true, laidLooks := .later }
def FnExactSplitStringUptoCardSaid : Prop := Claim7.holds Tryd.pinned (.plain (OpenSpec.upto fnExactSplitStringSpec)) fnExactSplitStringUptoCard

/-- THE SECOND FORM's CARD OF 'laws.FnExactIsBare'. -/
def fnExactIsBareUptoCard : Claim7 := { stood := { row := fnExactIsBareUptoRow, standIns := [], harness := (true, "0e792ce7d6e6e2f2d445d34b0f83711db8685c5643530eeaa67c6f7bdd846522"), looks := false }, kinds := [], alts := [], laidByText := true, laidKinds := [.data, .pinned], laidTests := true, laidLooks := .later }
def FnExactIsBareUptoCardSaid : Prop := Claim7.holds Tryd.pinned (.plain (OpenSpec.upto fnExactIsBareSpec)) fnExactIsBareUptoCard

/-- THE SECOND FORM's CARD OF 'laws.FnExactTimeOfMarks'. -/
def fnExactTimeOfMarksUptoCard : Claim7 := { stood := { row := fnExactTimeOfMarksUptoRow, standIns := [], harness := (true, "0e792ce7d6e6e2f2d445d34b0f83711db8685c5643530eeaa67c6f7bdd846522"), looks := false }, kinds := [], alts := [], laidByText := true, laidKinds := [.data, .pinned], laidTests := true, laidLooks := .later }
def FnExactTimeOfMarksUptoCardSaid : Prop := Claim7.holds Tryd.pinned (.plain (OpenSpec.upto fnExactTimeOfMarksSpec)) fnExactTimeOfMarksUptoCard
end Rows
end Go.Proofs.YtppnajkkhemopaaDoor
