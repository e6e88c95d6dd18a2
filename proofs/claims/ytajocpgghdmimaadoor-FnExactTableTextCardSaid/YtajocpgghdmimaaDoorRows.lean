/-
  NARROWER THAN 'FOR EVERY INPUT', by the rows' own cells (each row's printed sentence says how): FnExactIsTable: laid · FnExactMarksOf: laid · FnExactLetterOf: laid · FnExactIsMessage: laid · FnExactIsFreeTable: laid · FnExactCountReadings: laid · FnExactAddLetter: laid · FnExactSwapLetters: laid · FnExactBackTable: laid · FnExactTableText: laid · FnExactBeginningPairs: laid · FnExactReadingAt: laid.
  DERIVED. THE GIVEN ROWS OF THIS SEAT. 12 by the template 'for every input the law returns true; each argument reads behind the call as it read before'; 0 by the template 'total and deterministic' (their statements: YtajocpgghdmimaaDoorTotals.lean).
  GIVEN WITH THE SEED: the statements are not yours to turn. If you find one false, say at which input.
  Laid BY PROGRAM, IN A SANDBOX (cutbox-rows.mjs): the forced cells as the released guide's own fill.sh prints them over the translation a0f86cfc345b7f7a… (all of the seat's roots in one cut). By AI agents, Wed Nov 11 2026. No macro, syntax, notation, axiom, sorry.
-/
import Derived.Test.YtajocpgghdmimaaDoorChecked
import GoSem.PinnedTables
import GoSem.Claim
import GoSem.ClaimJoined
import GoSem.ClaimMapViews
import Derived.JoinedTies
import Derived.KernelRfl
namespace Go.Proofs.YtajocpgghdmimaaDoor
/- THE CELL 'sum', in the pinned program and in every row, IS THE sha256 OF THE DUMP (.gsa) THAT YtajocpgghdmimaaDoorProg.lean LOADS. Nothing in Lean hashes anything: it is a label: what it is worth is what the hold of that sum in a sandbox is worth. -/
noncomputable def Tryd.pinned : Pinned := { name := "ytajocpgghdmimaadoor", sum := "a0f86cfc345b7f7ad67da167956fd16ade412afd856bbaf55f58f0ec51753486", checked := Tryd.checked }
namespace Rows
def none {H : Type} : Left H := { results := [], args := [] }

/- WHAT THE LISTED PACKAGE-LEVEL VARIABLES READ AS WHEN THE CALL BEGINS. Each datum BY PROGRAM (the guide's laid-datum.mjs) off the statement by which the dump's own 'gosem.cut.vars' lays the variable. In a bare row this is a premise. The card (YtajocpgghdmimaaDoorCards.lean) ties it to the program's text. -/
def laid_unicode_utf8_acceptRanges {H : Type} : DataW H := .agg [.agg [.lit (.int .u8 128), .lit (.int .u8 191)], .agg [.lit (.int .u8 160), .lit (.int .u8 191)], .agg [.lit (.int .u8 128), .lit (.int .u8 159)], .agg [.lit (.int .u8 144), .lit (.int .u8 191)], .agg [.lit (.int .u8 128), .lit (.int .u8 143)], .agg [.lit (.int .u8 0), .lit (.int .u8 0)], .agg [.lit (.int .u8 0), .lit (.int .u8 0)], .agg [.lit (.int .u8 0), .lit (.int .u8 0)], .agg [.lit (.int .u8 0), .lit (.int .u8 0)], .agg [.lit (.int .u8 0), .lit (.int .u8 0)], .agg [.lit (.int .u8 0), .lit (.int .u8 0)], .agg [.lit (.int .u8 0), .lit (.int .u8 0)], .agg [.lit (.int .u8 0), .lit (.int .u8 0)], .agg [.lit (.int .u8 0), .lit (.int .u8 0)], .agg [.lit (.int .u8 0), .lit (.int .u8 0)], .agg [.lit (.int .u8 0), .lit (.int .u8 0)]]
/-- One of Go's own tables, pinned by name: the form's constant. -/
def laid_unicode_utf8_first : DataW Unit := Go.Pinned.utf8First

/-- 'laws.FnExactIsTable': WHATEVER THE INPUT: true; the input reads as it did. -/
def fnExactIsTableSpec : ChangeSpec := { name := "fnExactIsTable", fn := fun _ => fun
  | [d] => { results := [.lit (.bool true)], args := [d] }
  | _ => none }
def fnExactIsTableRow : OpenClaim := { program := "ytajocpgghdmimaadoor", sum := "a0f86cfc345b7f7ad67da167956fd16ade412afd856bbaf55f58f0ec51753486", func := "loop.example/g01248/laws.FnExactIsTable", spec := "fnExactIsTable", inPlace := ["internal/bytealg.IndexByteString", "internal/bytealg.IndexString"], named := ["unicode/utf8.first", "unicode/utf8.acceptRanges", "internal/bytealg.MaxLen"], apart := false, laid := [("unicode/utf8.acceptRanges", laid_unicode_utf8_acceptRanges), ("unicode/utf8.first", laid_unicode_utf8_first)] }
def FnExactIsTableSaid : Prop := fnExactIsTableRow.holds Tryd.pinned (OpenSpec.ofChange fnExactIsTableSpec)

/-- ITS FALSE NEIGHBOUR: 'it returns false'. Refute it at one input. -/
def fnExactIsTableWrong : ChangeSpec := { name := "fnExactIsTable", fn := fun _ => fun
  | [d] => { results := [.lit (.bool false)], args := [d] }
  | _ => none }
def FnExactIsTableWrongFalsely : Prop := fnExactIsTableRow.holds Tryd.pinned (OpenSpec.ofChange fnExactIsTableWrong)

/-- 'laws.FnExactMarksOf': WHATEVER THE INPUT: true; the input reads as it did. -/
def fnExactMarksOfSpec : ChangeSpec := { name := "fnExactMarksOf", fn := fun _ => fun
  | [d1, d2] => { results := [.lit (.bool true)], args := [d1, d2] }
  | _ => none }
def fnExactMarksOfRow : OpenClaim := { program := "ytajocpgghdmimaadoor", sum := "a0f86cfc345b7f7ad67da167956fd16ade412afd856bbaf55f58f0ec51753486", func := "loop.example/g01248/laws.FnExactMarksOf", spec := "fnExactMarksOf", inPlace := ["internal/bytealg.IndexByteString", "internal/bytealg.IndexString"], named := ["unicode/utf8.first", "unicode/utf8.acceptRanges", "internal/bytealg.MaxLen"], apart := false, laid := [("unicode/utf8.acceptRanges", laid_unicode_utf8_acceptRanges), ("unicode/utf8.first", laid_unicode_utf8_first)] }
def FnExactMarksOfSaid : Prop := fnExactMarksOfRow.holds Tryd.pinned (OpenSpec.ofChange fnExactMarksOfSpec)

/-- ITS FALSE NEIGHBOUR: 'it returns false'. Refute it at one input. -/
def fnExactMarksOfWrong : ChangeSpec := { name := "fnExactMarksOf", fn := fun _ => fun
  | [d1, d2] => { results := [.lit (.bool false)], args := [d1, d2] }
  | _ => none }
def FnExactMarksOfWrongFalsely : Prop := fnExactMarksOfRow.holds Tryd.pinned (OpenSpec.ofChange fnExactMarksOfWrong)

/-- 'laws.FnExactLetterOf': WHATEVER THE INPUT: true; the input reads as it did. -/
def fnExactLetterOfSpec : ChangeSpec := { name := "fnExactLetterOf", fn := fun _ => fun
  | [d1, d2] => { results := [.lit (.bool true)], args := [d1, d2] }
  | _ => none }
def fnExactLetterOfRow : OpenClaim := { program := "ytajocpgghdmimaadoor", sum := "a0f86cfc345b7f7ad67da167956fd16ade412afd856bbaf55f58f0ec51753486", func := "loop.example/g01248/laws.FnExactLetterOf", spec := "fnExactLetterOf", inPlace := ["internal/bytealg.IndexByteString", "internal/bytealg.IndexString"], named := ["unicode/utf8.first", "unicode/utf8.acceptRanges", "internal/bytealg.MaxLen"], apart := false, laid := [("unicode/utf8.acceptRanges", laid_unicode_utf8_acceptRanges), ("unicode/utf8.first", laid_unicode_utf8_first)] }
def FnExactLetterOfSaid : Prop := fnExactLetterOfRow.holds Tryd.pinned (OpenSpec.ofChange fnExactLetterOfSpec)

/-- ITS FALSE NEIGHBOUR: 'it returns false'. Refute it at one input. -/
def fnExactLetterOfWrong : ChangeSpec := { name := "fnExactLetterOf", fn := fun _ => fun
  | [d1, d2] => { results := [.lit (.bool false)], args := [d1, d2] }
  | _ => none }
def FnExactLetterOfWrongFalsely : Prop := fnExactLetterOfRow.holds Tryd.pinned (OpenSpec.ofChange fnExactLetterOfWrong)

/-- 'laws.FnExactIsMessage': WHATEVER THE INPUT: true; the input reads as it did. -/
def fnExactIsMessageSpec : ChangeSpec := { name := "fnExactIsMessage", fn := fun _ => fun
  | [d1, d2] => { results := [.lit (.bool true)], args := [d1, d2] }
  | _ => none }
def fnExactIsMessageRow : OpenClaim := { program := "ytajocpgghdmimaadoor", sum := "a0f86cfc345b7f7ad67da167956fd16ade412afd856bbaf55f58f0ec51753486", func := "loop.example/g01248/laws.FnExactIsMessage", spec := "fnExactIsMessage", inPlace := ["internal/bytealg.IndexByteString", "internal/bytealg.IndexString"], named := ["unicode/utf8.first", "unicode/utf8.acceptRanges", "internal/bytealg.MaxLen"], apart := false, laid := [("unicode/utf8.acceptRanges", laid_unicode_utf8_acceptRanges), ("unicode/utf8.first", laid_unicode_utf8_first)] }
def FnExactIsMessageSaid : Prop := fnExactIsMessageRow.holds Tryd.pinned (OpenSpec.ofChange fnExactIsMessageSpec)

/-- ITS FALSE NEIGHBOUR: 'it returns false'. Refute it at one input. -/
def fnExactIsMessageWrong : ChangeSpec := { name := "fnExactIsMessage", fn := fun _ => fun
  | [d1, d2] => { results := [.lit (.bool false)], args := [d1, d2] }
  | _ => none }
def FnExactIsMessageWrongFalsely : Prop := fnExactIsMessageRow.holds Tryd.pinned (OpenSpec.ofChange fnExactIsMessageWrong)

/-- 'laws.FnExactIsFreeTable': WHATEVER THE INPUT: true; the input reads as it did. -/
def fnExactIsFreeTableSpec : ChangeSpec := { name := "fnExactIsFreeTable", fn := fun _ => fun
  | [d] => { results := [.lit (.bool true)], args := [d] }
  | _ => none }
def fnExactIsFreeTableRow : OpenClaim := { program := "ytajocpgghdmimaadoor", sum := "a0f86cfc345b7f7ad67da167956fd16ade412afd856bbaf55f58f0ec51753486", func := "loop.example/g01248/laws.FnExactIsFreeTable", spec := "fnExactIsFreeTable", inPlace := ["internal/bytealg.IndexByteString", "internal/bytealg.IndexString"], named := ["unicode/utf8.first", "unicode/utf8.acceptRanges", "internal/bytealg.MaxLen"], apart := false, laid := [("unicode/utf8.acceptRanges", laid_unicode_utf8_acceptRanges), ("unicode/utf8.first", laid_unicode_utf8_first)] }
def FnExactIsFreeTableSaid : Prop := fnExactIsFreeTableRow.holds Tryd.pinned (OpenSpec.ofChange fnExactIsFreeTableSpec)

/-- ITS FALSE NEIGHBOUR: 'it returns false'. Refute it at one input. -/
def fnExactIsFreeTableWrong : ChangeSpec := { name := "fnExactIsFreeTable", fn := fun _ => fun
  | [d] => { results := [.lit (.bool false)], args := [d] }
  | _ => none }
def FnExactIsFreeTableWrongFalsely : Prop := fnExactIsFreeTableRow.holds Tryd.pinned (OpenSpec.ofChange fnExactIsFreeTableWrong)

/-- 'laws.FnExactCountReadings': WHATEVER THE INPUT: true; the input reads as it did. -/
def fnExactCountReadingsSpec : ChangeSpec := { name := "fnExactCountReadings", fn := fun _ => fun
  | [d1, d2] => { results := [.lit (.bool true)], args := [d1, d2] }
  | _ => none }
def fnExactCountReadingsRow : OpenClaim := { program := "ytajocpgghdmimaadoor", sum := "a0f86cfc345b7f7ad67da167956fd16ade412afd856bbaf55f58f0ec51753486", func := "loop.example/g01248/laws.FnExactCountReadings", spec := "fnExactCountReadings", inPlace := ["internal/bytealg.IndexByteString", "internal/bytealg.IndexString"], named := ["unicode/utf8.first", "unicode/utf8.acceptRanges", "internal/bytealg.MaxLen"], apart := false, laid := [("unicode/utf8.acceptRanges", laid_unicode_utf8_acceptRanges), ("unicode/utf8.first", laid_unicode_utf8_first)] }
def FnExactCountReadingsSaid : Prop := fnExactCountReadingsRow.holds Tryd.pinned (OpenSpec.ofChange fnExactCountReadingsSpec)

/-- ITS FALSE NEIGHBOUR: 'it returns false'. Refute it at one input. -/
def fnExactCountReadingsWrong : ChangeSpec := { name := "fnExactCountReadings", fn := fun _ => fun
  | [d1, d2] => { results := [.lit (.bool false)], args := [d1, d2] }
  | _ => none }
def FnExactCountReadingsWrongFalsely : Prop := fnExactCountReadingsRow.holds Tryd.pinned (OpenSpec.ofChange fnExactCountReadingsWrong)

/-- 'laws.FnExactAddLetter': WHATEVER THE INPUT: true; the input reads as it did. -/
def fnExactAddLetterSpec : ChangeSpec := { name := "fnExactAddLetter", fn := fun _ => fun
  | [d1, d2] => { results := [.lit (.bool true)], args := [d1, d2] }
  | _ => none }
def fnExactAddLetterRow : OpenClaim := { program := "ytajocpgghdmimaadoor", sum := "a0f86cfc345b7f7ad67da167956fd16ade412afd856bbaf55f58f0ec51753486", func := "loop.example/g01248/laws.FnExactAddLetter", spec := "fnExactAddLetter", inPlace := ["internal/bytealg.IndexByteString", "internal/bytealg.IndexString"], named := ["unicode/utf8.first", "unicode/utf8.acceptRanges", "internal/bytealg.MaxLen"], apart := false, laid := [("unicode/utf8.acceptRanges", laid_unicode_utf8_acceptRanges), ("unicode/utf8.first", laid_unicode_utf8_first)] }
def FnExactAddLetterSaid : Prop := fnExactAddLetterRow.holds Tryd.pinned (OpenSpec.ofChange fnExactAddLetterSpec)

/-- ITS FALSE NEIGHBOUR: 'it returns false'. Refute it at one input. -/
def fnExactAddLetterWrong : ChangeSpec := { name := "fnExactAddLetter", fn := fun _ => fun
  | [d1, d2] => { results := [.lit (.bool false)], args := [d1, d2] }
  | _ => none }
def FnExactAddLetterWrongFalsely : Prop := fnExactAddLetterRow.holds Tryd.pinned (OpenSpec.ofChange fnExactAddLetterWrong)

/-- 'laws.FnExactSwapLetters': WHATEVER THE INPUT: true; the input reads as it did. -/
def fnExactSwapLettersSpec : ChangeSpec := { name := "fnExactSwapLetters", fn := fun _ => fun
  | [d1, d2, d3] => { results := [.lit (.bool true)], args := [d1, d2, d3] }
  | _ => none }
def fnExactSwapLettersRow : OpenClaim := { program := "ytajocpgghdmimaadoor", sum := "a0f86cfc345b7f7ad67da167956fd16ade412afd856bbaf55f58f0ec51753486", func := "loop.example/g01248/laws.FnExactSwapLetters", spec := "fnExactSwapLetters", inPlace := ["internal/bytealg.IndexByteString", "internal/bytealg.IndexString"], named := ["unicode/utf8.first", "unicode/utf8.acceptRanges", "internal/bytealg.MaxLen"], apart := false, laid := [("unicode/utf8.acceptRanges", laid_unicode_utf8_acceptRanges), ("unicode/utf8.first", laid_unicode_utf8_first)] }
def FnExactSwapLettersSaid : Prop := fnExactSwapLettersRow.holds Tryd.pinned (OpenSpec.ofChange fnExactSwapLettersSpec)

/-- ITS FALSE NEIGHBOUR: 'it returns false'. Refute it at one input. -/
def fnExactSwapLettersWrong : ChangeSpec := { name := "fnExactSwapLetters", fn := fun _ => fun
  | [d1, d2, d3] => { results := [.lit (.bool false)], args := [d1, d2, d3] }
  | _ => none }
def FnExactSwapLettersWrongFalsely : Prop := fnExactSwapLettersRow.holds Tryd.pinned (OpenSpec.ofChange fnExactSwapLettersWrong)

/-- 'laws.FnExactBackTable': WHATEVER THE INPUT: true; the input reads as it did. -/
def fnExactBackTableSpec : ChangeSpec := { name := "fnExactBackTable", fn := fun _ => fun
  | [d] => { results := [.lit (.bool true)], args := [d] }
  | _ => none }
def fnExactBackTableRow : OpenClaim := { program := "ytajocpgghdmimaadoor", sum := "a0f86cfc345b7f7ad67da167956fd16ade412afd856bbaf55f58f0ec51753486", func := "loop.example/g01248/laws.FnExactBackTable", spec := "fnExactBackTable", inPlace := ["internal/bytealg.IndexByteString", "internal/bytealg.IndexString"], unfollowed := true, recurses := true, named := ["unicode/utf8.first", "unicode/utf8.acceptRanges", "internal/bytealg.MaxLen"], apart := false, laid := [("unicode/utf8.acceptRanges", laid_unicode_utf8_acceptRanges), ("unicode/utf8.first", laid_unicode_utf8_first)] }
def FnExactBackTableSaid : Prop := fnExactBackTableRow.holds Tryd.pinned (OpenSpec.ofChange fnExactBackTableSpec)

/-- ITS FALSE NEIGHBOUR: 'it returns false'. Refute it at one input. -/
def fnExactBackTableWrong : ChangeSpec := { name := "fnExactBackTable", fn := fun _ => fun
  | [d] => { results := [.lit (.bool false)], args := [d] }
  | _ => none }
def FnExactBackTableWrongFalsely : Prop := fnExactBackTableRow.holds Tryd.pinned (OpenSpec.ofChange fnExactBackTableWrong)

/-- 'laws.FnExactTableText': WHATEVER THE INPUT: true; the input reads as it did. -/
def fnExactTableTextSpec : ChangeSpec := { name := "fnExactTableText", fn := fun _ => fun
  | [d] => { results := [.lit (.bool true)], args := [d] }
  | _ => none }
def fnExactTableTextRow : OpenClaim := { program := "ytajocpgghdmimaadoor", sum := "a0f86cfc345b7f7ad67da167956fd16ade412afd856bbaf55f58f0ec51753486", func := "loop.example/g01248/laws.FnExactTableText", spec := "fnExactTableText", inPlace := ["internal/bytealg.IndexByteString", "internal/bytealg.IndexString", "internal/abi.NoEscape", "internal/bytealg.MakeNoZero"], named := ["unicode/utf8.first", "unicode/utf8.acceptRanges", "internal/bytealg.MaxLen"], apart := false, laid := [("unicode/utf8.acceptRanges", laid_unicode_utf8_acceptRanges), ("unicode/utf8.first", laid_unicode_utf8_first)] }
def FnExactTableTextSaid : Prop := fnExactTableTextRow.holds Tryd.pinned (OpenSpec.ofChange fnExactTableTextSpec)

/-- ITS FALSE NEIGHBOUR: 'it returns false'. Refute it at one input. -/
def fnExactTableTextWrong : ChangeSpec := { name := "fnExactTableText", fn := fun _ => fun
  | [d] => { results := [.lit (.bool false)], args := [d] }
  | _ => none }
def FnExactTableTextWrongFalsely : Prop := fnExactTableTextRow.holds Tryd.pinned (OpenSpec.ofChange fnExactTableTextWrong)

/-- 'laws.FnExactBeginningPairs': WHATEVER THE INPUT: true; the input reads as it did. -/
def fnExactBeginningPairsSpec : ChangeSpec := { name := "fnExactBeginningPairs", fn := fun _ => fun
  | [d] => { results := [.lit (.bool true)], args := [d] }
  | _ => none }
def fnExactBeginningPairsRow : OpenClaim := { program := "ytajocpgghdmimaadoor", sum := "a0f86cfc345b7f7ad67da167956fd16ade412afd856bbaf55f58f0ec51753486", func := "loop.example/g01248/laws.FnExactBeginningPairs", spec := "fnExactBeginningPairs", inPlace := ["internal/bytealg.IndexByteString", "internal/bytealg.IndexString"], named := ["unicode/utf8.first", "unicode/utf8.acceptRanges", "internal/bytealg.MaxLen"], apart := false, laid := [("unicode/utf8.acceptRanges", laid_unicode_utf8_acceptRanges), ("unicode/utf8.first", laid_unicode_utf8_first)] }
def FnExactBeginningPairsSaid : Prop := fnExactBeginningPairsRow.holds Tryd.pinned (OpenSpec.ofChange fnExactBeginningPairsSpec)

/-- ITS FALSE NEIGHBOUR: 'it returns false'. Refute it at one input. -/
def fnExactBeginningPairsWrong : ChangeSpec := { name := "fnExactBeginningPairs", fn := fun _ => fun
  | [d] => { results := [.lit (.bool false)], args := [d] }
  | _ => none }
def FnExactBeginningPairsWrongFalsely : Prop := fnExactBeginningPairsRow.holds Tryd.pinned (OpenSpec.ofChange fnExactBeginningPairsWrong)

/-- 'laws.FnExactReadingAt': WHATEVER THE INPUT: true; the input reads as it did. -/
def fnExactReadingAtSpec : ChangeSpec := { name := "fnExactReadingAt", fn := fun _ => fun
  | [d1, d2, d3] => { results := [.lit (.bool true)], args := [d1, d2, d3] }
  | _ => none }
def fnExactReadingAtRow : OpenClaim := { program := "ytajocpgghdmimaadoor", sum := "a0f86cfc345b7f7ad67da167956fd16ade412afd856bbaf55f58f0ec51753486", func := "loop.example/g01248/laws.FnExactReadingAt", spec := "fnExactReadingAt", inPlace := ["internal/bytealg.IndexByteString", "internal/bytealg.IndexString"], named := ["unicode/utf8.first", "unicode/utf8.acceptRanges", "internal/bytealg.MaxLen"], apart := false, laid := [("unicode/utf8.acceptRanges", laid_unicode_utf8_acceptRanges), ("unicode/utf8.first", laid_unicode_utf8_first)] }
def FnExactReadingAtSaid : Prop := fnExactReadingAtRow.holds Tryd.pinned (OpenSpec.ofChange fnExactReadingAtSpec)

/-- ITS FALSE NEIGHBOUR: 'it returns false'. Refute it at one input. -/
def fnExactReadingAtWrong : ChangeSpec := { name := "fnExactReadingAt", fn := fun _ => fun
  | [d1, d2, d3] => { results := [.lit (.bool false)], args := [d1, d2, d3] }
  | _ => none }
def FnExactReadingAtWrongFalsely : Prop := fnExactReadingAtRow.holds Tryd.pinned (OpenSpec.ofChange fnExactReadingAtWrong)

/- THE SECOND FORM. 'bulk': how many values and letters a reading holds, each counted each time it is reached (what is shared counts as often as it is met; a slice's spare places count too). A statement '..UptoSaid' is the law's where the arguments, and the package variables that the reading takes, are together of bulk at most 1048576: NARROWER than '..Said'. Prove '..Said' where nothing that the law and all that it calls make is longer than what came in: it says more and counts as full. Else prove '..UptoSaid'. A law counts once. -/
mutual
def uptoBulk {H : Type} : DataW H → Nat
  | .lit (.string bytes) => bytes.length + 1
  | .lit _ => 1
  | .nil => 1
  | .ptr d => uptoBulk d + 1
  | .slice elems spare => uptoBulkAll elems + uptoBulkAll spare + 1
  | .agg parts => uptoBulkAll parts + 1
  | .iface _ d => uptoBulk d + 1
  | .map entries => uptoBulkEntries entries + 1
  | .held _ => 1
def uptoBulkAll {H : Type} : List (DataW H) → Nat
  | [] => 0
  | d :: r => uptoBulk d + uptoBulkAll r
def uptoBulkEntries {H : Type} : List (Lit × DataW H) → Nat
  | [] => 0
  | x :: r => uptoBulkEntry x + uptoBulkEntries r
def uptoBulkEntry {H : Type} : Lit × DataW H → Nat
  | (.string bytes, d) => bytes.length + uptoBulk d + 1
  | (_, d) => uptoBulk d + 1
 end
def uptoSmall : (H : Type) → List (DataW H) → Bool := fun _ ds => decide (uptoBulkAll ds ≤ 1048576)
def OpenSpec.upto (s : _root_.Go.ChangeSpec) : _root_.Go.OpenSpec := { _root_.Go.OpenSpec.ofChange s with cond := some uptoSmall }

/-- 'laws.FnExactIsTable', WHERE WHAT IT READS IS OF BULK AT MOST 1048576: true; the input reads as it did. -/
def fnExactIsTableUptoRow : OpenClaim := { program := "ytajocpgghdmimaadoor", sum := "a0f86cfc345b7f7ad67da167956fd16ade412afd856bbaf55f58f0ec51753486", func := "loop.example/g01248/laws.FnExactIsTable", spec := "fnExactIsTable", inPlace := ["internal/bytealg.IndexByteString", "internal/bytealg.IndexString"], named := ["unicode/utf8.first", "unicode/utf8.acceptRanges", "internal/bytealg.MaxLen"], apart := false, laid := [("unicode/utf8.acceptRanges", laid_unicode_utf8_acceptRanges), ("unicode/utf8.first", laid_unicode_utf8_first)], narrowed := true }
def FnExactIsTableUptoSaid : Prop := fnExactIsTableUptoRow.holds Tryd.pinned (OpenSpec.upto fnExactIsTableSpec)

/-- 'laws.FnExactMarksOf', WHERE WHAT IT READS IS OF BULK AT MOST 1048576: true; the input reads as it did. -/
def fnExactMarksOfUptoRow : OpenClaim := { program := "ytajocpgghdmimaadoor", sum := "a0f86cfc345b7f7ad67da167956fd16ade412afd856bbaf55f58f0ec51753486", func := "loop.example/g01248/laws.FnExactMarksOf", spec := "fnExactMarksOf", inPlace := ["internal/bytealg.IndexByteString", "internal/bytealg.IndexString"], named := ["unicode/utf8.first", "unicode/utf8.acceptRanges", "internal/bytealg.MaxLen"], apart := false, laid := [("unicode/utf8.acceptRanges", laid_unicode_utf8_acceptRanges), ("unicode/utf8.first", laid_unicode_utf8_first)], narrowed := true }
def FnExactMarksOfUptoSaid : Prop := fnExactMarksOfUptoRow.holds Tryd.pinned (OpenSpec.upto fnExactMarksOfSpec)

/-- 'laws.FnExactLetterOf', WHERE WHAT IT READS IS OF BULK AT MOST 1048576: true; the input reads as it did. -/
def fnExactLetterOfUptoRow : OpenClaim := { program := "ytajocpgghdmimaadoor", sum := "a0f86cfc345b7f7ad67da167956fd16ade412afd856bbaf55f58f0ec51753486", func := "loop.example/g01248/laws.FnExactLetterOf", spec := "fnExactLetterOf", inPlace := ["internal/bytealg.IndexByteString", "internal/bytealg.IndexString"], named := ["unicode/utf8.first", "unicode/utf8.acceptRanges", "internal/bytealg.MaxLen"], apart := false, laid := [("unicode/utf8.acceptRanges", laid_unicode_utf8_acceptRanges), ("unicode/utf8.first", laid_unicode_utf8_first)], narrowed := true }
def FnExactLetterOfUptoSaid : Prop := fnExactLetterOfUptoRow.holds Tryd.pinned (OpenSpec.upto fnExactLetterOfSpec)

/-- 'laws.FnExactIsMessage', WHERE WHAT IT READS IS OF BULK AT MOST 1048576: true; the input reads as it did. -/
def fnExactIsMessageUptoRow : OpenClaim := { program := "ytajocpgghdmimaadoor", sum := "a0f86cfc345b7f7ad67da167956fd16ade412afd856bbaf55f58f0ec51753486", func := "loop.example/g01248/laws.FnExactIsMessage", spec := "fnExactIsMessage", inPlace := ["internal/bytealg.IndexByteString", "internal/bytealg.IndexString"], named := ["unicode/utf8.first", "unicode/utf8.acceptRanges", "internal/bytealg.MaxLen"], apart := false, laid := [("unicode/utf8.acceptRanges", laid_unicode_utf8_acceptRanges), ("unicode/utf8.first", laid_unicode_utf8_first)], narrowed := true }
def FnExactIsMessageUptoSaid : Prop := fnExactIsMessageUptoRow.holds Tryd.pinned (OpenSpec.upto fnExactIsMessageSpec)

/-- 'laws.FnExactIsFreeTable', WHERE WHAT IT READS IS OF BULK AT MOST 1048576: true; the input reads as it did. -/
def fnExactIsFreeTableUptoRow : OpenClaim := { program := "ytajocpgghdmimaadoor", sum := "a0f86cfc345b7f7ad67da167956fd16ade412afd856bbaf55f58f0ec51753486", func := "loop.example/g01248/laws.FnExactIsFreeTable", spec := "fnExactIsFreeTable", inPlace := ["internal/bytealg.IndexByteString", "internal/bytealg.IndexString"], named := ["unicode/utf8.first", "unicode/utf8.acceptRanges", "internal/bytealg.MaxLen"], apart := false, laid := [("unicode/utf8.acceptRanges", laid_unicode_utf8_acceptRanges), ("unicode/utf8.first", laid_unicode_utf8_first)], narrowed := true }
def FnExactIsFreeTableUptoSaid : Prop := fnExactIsFreeTableUptoRow.holds Tryd.pinned (OpenSpec.upto fnExactIsFreeTableSpec)

/-- 'laws.FnExactCountReadings', WHERE WHAT IT READS IS OF BULK AT MOST 1048576: true; the input reads as it did. -/
def fnExactCountReadingsUptoRow : OpenClaim := { program := "ytajocpgghdmimaadoor", sum := "a0f86cfc345b7f7ad67da167956fd16ade412afd856bbaf55f58f0ec51753486", func := "loop.example/g01248/laws.FnExactCountReadings", spec := "fnExactCountReadings", inPlace := ["internal/bytealg.IndexByteString", "internal/bytealg.IndexString"], named := ["unicode/utf8.first", "unicode/utf8.acceptRanges", "internal/bytealg.MaxLen"], apart := false, laid := [("unicode/utf8.acceptRanges", laid_unicode_utf8_acceptRanges), ("unicode/utf8.first", laid_unicode_utf8_first)], narrowed := true }
def FnExactCountReadingsUptoSaid : Prop := fnExactCountReadingsUptoRow.holds Tryd.pinned (OpenSpec.upto fnExactCountReadingsSpec)

/-- 'laws.FnExactAddLetter', WHERE WHAT IT READS IS OF BULK AT MOST 1048576: true; the input reads as it did. -/
def fnExactAddLetterUptoRow : OpenClaim := { program := "ytajocpgghdmimaadoor", sum := "a0f86cfc345b7f7ad67da167956fd16ade412afd856bbaf55f58f0ec51753486", func := "loop.example/g01248/laws.FnExactAddLetter", spec := "fnExactAddLetter", inPlace := ["internal/bytealg.IndexByteString", "internal/bytealg.IndexString"], named := ["unicode/utf8.first", "unicode/utf8.acceptRanges", "internal/bytealg.MaxLen"], apart := false, laid := [("unicode/utf8.acceptRanges", laid_unicode_utf8_acceptRanges), ("unicode/utf8.first", laid_unicode_utf8_first)], narrowed := true }
def FnExactAddLetterUptoSaid : Prop := fnExactAddLetterUptoRow.holds Tryd.pinned (OpenSpec.upto fnExactAddLetterSpec)

/-- 'laws.FnExactSwapLetters', WHERE WHAT IT READS IS OF BULK AT MOST 1048576: true; the input reads as it did. -/
def fnExactSwapLettersUptoRow : OpenClaim := { program := "ytajocpgghdmimaadoor", sum := "a0f86cfc345b7f7ad67da167956fd16ade412afd856bbaf55f58f0ec51753486", func := "loop.example/g01248/laws.FnExactSwapLetters", spec := "fnExactSwapLetters", inPlace := ["internal/bytealg.IndexByteString", "internal/bytealg.IndexString"], named := ["unicode/utf8.first", "unicode/utf8.acceptRanges", "internal/bytealg.MaxLen"], apart := false, laid := [("unicode/utf8.acceptRanges", laid_unicode_utf8_acceptRanges), ("unicode/utf8.first", laid_unicode_utf8_first)], narrowed := true }
def FnExactSwapLettersUptoSaid : Prop := fnExactSwapLettersUptoRow.holds Tryd.pinned (OpenSpec.upto fnExactSwapLettersSpec)

/-- 'laws.FnExactBackTable', WHERE WHAT IT READS IS OF BULK AT MOST 1048576: true; the input reads as it did. -/
def fnExactBackTableUptoRow : OpenClaim := { program := "ytajocpgghdmimaadoor", sum := "a0f86cfc345b7f7ad67da167956fd16ade412afd856bbaf55f58f0ec51753486", func := "loop.example/g01248/laws.FnExactBackTable", spec := "fnExactBackTable", inPlace := ["internal/bytealg.IndexByteString", "internal/bytealg.IndexString"], unfollowed := true, recurses := true, named := ["unicode/utf8.first", "unicode/utf8.acceptRanges", "internal/bytealg.MaxLen"], apart := false, laid := [("unicode/utf8.acceptRanges", laid_unicode_utf8_acceptRanges), ("unicode/utf8.first", laid_unicode_utf8_first)], narrowed := true }
def FnExactBackTableUptoSaid : Prop := fnExactBackTableUptoRow.holds Tryd.pinned (OpenSpec.upto fnExactBackTableSpec)

/-- 'laws.FnExactTableText', WHERE WHAT IT READS IS OF BULK AT MOST 1048576: true; the input reads as it did. -/
def fnExactTableTextUptoRow : OpenClaim := { program := "ytajocpgghdmimaadoor", sum := "a0f86cfc345b7f7ad67da167956fd16ade412afd856bbaf55f58f0ec51753486", func := "loop.example/g01248/laws.FnExactTableText", spec := "fnExactTableText", inPlace := ["internal/bytealg.IndexByteString", "internal/bytealg.IndexString", "internal/abi.NoEscape", "internal/bytealg.MakeNoZero"], named := ["unicode/utf8.first", "unicode/utf8.acceptRanges", "internal/bytealg.MaxLen"], apart := false, laid := [("unicode/utf8.acceptRanges", laid_unicode_utf8_acceptRanges), ("unicode/utf8.first", laid_unicode_utf8_first)], narrowed := true }
def FnExactTableTextUptoSaid : Prop := fnExactTableTextUptoRow.holds Tryd.pinned (OpenSpec.upto fnExactTableTextSpec)

/-- 'laws.FnExactBeginningPairs', WHERE WHAT IT READS IS OF BULK AT MOST 1048576: true; the input reads as it did. -/
def fnExactBeginningPairsUptoRow : OpenClaim := { program := "ytajocpgghdmimaadoor", sum := "a0f86cfc345b7f7ad67da167956fd16ade412afd856bbaf55f58f0ec51753486", func := "loop.example/g01248/laws.FnExactBeginningPairs", spec := "fnExactBeginningPairs", inPlace := ["internal/bytealg.IndexByteString", "internal/bytealg.IndexString"], named := ["unicode/utf8.first", "unicode/utf8.acceptRanges", "internal/bytealg.MaxLen"], apart := false, laid := [("unicode/utf8.acceptRanges", laid_unicode_utf8_acceptRanges), ("unicode/utf8.first", laid_unicode_utf8_first)], narrowed := true }
def FnExactBeginningPairsUptoSaid : Prop := fnExactBeginningPairsUptoRow.holds Tryd.pinned (OpenSpec.upto fnExactBeginningPairsSpec)

/-- 'laws.FnExactReadingAt', WHERE WHAT IT READS IS OF BULK AT MOST 1048576: true; the input reads as it did. -/
def fnExactReadingAtUptoRow : OpenClaim := { program := "ytajocpgghdmimaadoor", sum := "a0f86cfc345b7f7ad67da167956fd16ade412afd856bbaf55f58f0ec51753486", func := "loop.example/g01248/laws.FnExactReadingAt", spec := "fnExactReadingAt", inPlace := ["internal/bytealg.IndexByteString", "internal/bytealg.IndexString"], named := ["unicode/utf8.first", "unicode/utf8.acceptRanges", "internal/bytealg.MaxLen"], apart := false, laid := [("unicode/utf8.acceptRanges", laid_unicode_utf8_acceptRanges), ("unicode/utf8.first", laid_unicode_utf8_first)], narrowed := true }
def FnExactReadingAtUptoSaid : Prop := fnExactReadingAtUptoRow.holds Tryd.pinned (OpenSpec.upto fnExactReadingAtSpec)

end Rows
end Go.Proofs.YtajocpgghdmimaaDoor
