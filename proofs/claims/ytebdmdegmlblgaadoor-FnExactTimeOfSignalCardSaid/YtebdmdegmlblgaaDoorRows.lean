/-
  NARROWER THAN 'FOR EVERY INPUT', by the rows' own cells (each row's printed sentence says how): FnExactIsSignal: laid · FnExactTimeOfSignal: laid · FnExactReadTrace: laid · FnExactLineOf: laid · FnExactSignalOf: laid · FnExactDecodeSignal: laid · FnExactReadLine: laid.
  DERIVED. THE GIVEN ROWS OF THIS SEAT. 7 by the template 'for every input the law returns true; each argument reads behind the call as it read before'; 0 by the template 'total and deterministic' (their statements: YtebdmdegmlblgaaDoorTotals.lean).
  GIVEN WITH THE SEED: the statements are not yours to turn. If you find one false, say at which input.
  Laid BY PROGRAM, IN A SANDBOX (cutbox-rows.mjs): the forced cells as the released guide's own fill.sh prints them over the translation 0570098d19a70fdf… (all of the seat's roots in one cut). By AI agents, Wed Nov 11 2026. No macro, syntax, notation, axiom, sorry.
-/
import Derived.Test.YtebdmdegmlblgaaDoorChecked
import GoSem.PinnedTables
import GoSem.Claim
import GoSem.ClaimJoined
import GoSem.ClaimMapViews
import Derived.JoinedTies
import Derived.KernelRfl
namespace Go.Proofs.YtebdmdegmlblgaaDoor
/- THE CELL 'sum', in the pinned program and in every row, IS THE sha256 OF THE DUMP (.gsa) THAT YtebdmdegmlblgaaDoorProg.lean LOADS. Nothing in Lean hashes anything: it is a label: what it is worth is what the hold of that sum in a sandbox is worth. -/
noncomputable def Tryd.pinned : Pinned := { name := "ytebdmdegmlblgaadoor", sum := "0570098d19a70fdfe09e54cf5bf006d0a24c7ea851b707d2a17ee567d7f3da4b", checked := Tryd.checked }
namespace Rows
def none {H : Type} : Left H := { results := [], args := [] }

/- WHAT THE LISTED PACKAGE-LEVEL VARIABLES READ AS WHEN THE CALL BEGINS. Each datum BY PROGRAM (the guide's laid-datum.mjs) off the statement by which the dump's own 'gosem.cut.vars' lays the variable. In a bare row this is a premise. The card (YtebdmdegmlblgaaDoorCards.lean) ties it to the program's text. -/
def laid_unicode_utf8_acceptRanges {H : Type} : DataW H := .agg [.agg [.lit (.int .u8 128), .lit (.int .u8 191)], .agg [.lit (.int .u8 160), .lit (.int .u8 191)], .agg [.lit (.int .u8 128), .lit (.int .u8 159)], .agg [.lit (.int .u8 144), .lit (.int .u8 191)], .agg [.lit (.int .u8 128), .lit (.int .u8 143)], .agg [.lit (.int .u8 0), .lit (.int .u8 0)], .agg [.lit (.int .u8 0), .lit (.int .u8 0)], .agg [.lit (.int .u8 0), .lit (.int .u8 0)], .agg [.lit (.int .u8 0), .lit (.int .u8 0)], .agg [.lit (.int .u8 0), .lit (.int .u8 0)], .agg [.lit (.int .u8 0), .lit (.int .u8 0)], .agg [.lit (.int .u8 0), .lit (.int .u8 0)], .agg [.lit (.int .u8 0), .lit (.int .u8 0)], .agg [.lit (.int .u8 0), .lit (.int .u8 0)], .agg [.lit (.int .u8 0), .lit (.int .u8 0)], .agg [.lit (.int .u8 0), .lit (.int .u8 0)]]
/-- One of Go's own tables, pinned by name: the form's constant. -/
def laid_unicode_utf8_first : DataW Unit := Go.Pinned.utf8First

/-- 'laws.FnExactIsSignal': WHATEVER THE INPUT: true; the input reads as it did. -/
def fnExactIsSignalSpec : ChangeSpec := { name := "fnExactIsSignal", fn := fun _ => fun
  | [d] => { results := [.lit (.bool true)], args := [d] }
  | _ => none }
def fnExactIsSignalRow : OpenClaim := { program := "ytebdmdegmlblgaadoor", sum := "0570098d19a70fdfe09e54cf5bf006d0a24c7ea851b707d2a17ee567d7f3da4b", func := "loop.example/g01248/laws.FnExactIsSignal", spec := "fnExactIsSignal", inPlace := ["internal/bytealg.CountString", "internal/bytealg.IndexByteString", "internal/bytealg.IndexString"], named := ["unicode/utf8.first", "unicode/utf8.acceptRanges", "internal/bytealg.MaxLen"], apart := false, laid := [("unicode/utf8.acceptRanges", laid_unicode_utf8_acceptRanges), ("unicode/utf8.first", laid_unicode_utf8_first)] }
def FnExactIsSignalSaid : Prop := fnExactIsSignalRow.holds Tryd.pinned (OpenSpec.ofChange fnExactIsSignalSpec)

/-- ITS FALSE NEIGHBOUR: 'it returns false'. Refute it at one input. -/
def fnExactIsSignalWrong : ChangeSpec := { name := "fnExactIsSignal", fn := fun _ => fun
  | [d] => { results := [.lit (.bool false)], args := [d] }
  | _ => none }
def FnExactIsSignalWrongFalsely : Prop := fnExactIsSignalRow.holds Tryd.pinned (OpenSpec.ofChange fnExactIsSignalWrong)

/-- 'laws.FnExactTimeOfSignal': WHATEVER THE INPUT: true; the input reads as it did. -/
def fnExactTimeOfSignalSpec : ChangeSpec := { name := "fnExactTimeOfSignal", fn := fun _ => fun
  | [d] => { results := [.lit (.bool true)], args := [d] }
  | _ => none }
def fnExactTimeOfSignalRow : OpenClaim := { program := "ytebdmdegmlblgaadoor", sum := "0570098d19a70fdfe09e54cf5bf006d0a24c7ea851b707d2a17ee567d7f3da4b", func := "loop.example/g01248/laws.FnExactTimeOfSignal", spec := "fnExactTimeOfSignal", inPlace := ["internal/bytealg.CountString", "internal/bytealg.IndexByteString", "internal/bytealg.IndexString"], named := ["unicode/utf8.first", "unicode/utf8.acceptRanges", "internal/bytealg.MaxLen"], apart := false, laid := [("unicode/utf8.acceptRanges", laid_unicode_utf8_acceptRanges), ("unicode/utf8.first", laid_unicode_utf8_first)] }
def FnExactTimeOfSignalSaid : Prop := fnExactTimeOfSignalRow.holds Tryd.pinned (OpenSpec.ofChange fnExactTimeOfSignalSpec)

/-- ITS FALSE NEIGHBOUR: 'it returns false'. Refute it at one input. -/
def fnExactTimeOfSignalWrong : ChangeSpec := { name := "fnExactTimeOfSignal", fn := fun _ => fun
  | [d] => { results := [.lit (.bool false)], args := [d] }
  | _ => none }
def FnExactTimeOfSignalWrongFalsely : Prop := fnExactTimeOfSignalRow.holds Tryd.pinned (OpenSpec.ofChange fnExactTimeOfSignalWrong)

/-- 'laws.FnExactReadTrace': WHATEVER THE INPUT: true; the input reads as it did. -/
def fnExactReadTraceSpec : ChangeSpec := { name := "fnExactReadTrace", fn := fun _ => fun
  | [d1, d2] => { results := [.lit (.bool true)], args := [d1, d2] }
  | _ => none }
def fnExactReadTraceRow : OpenClaim := { program := "ytebdmdegmlblgaadoor", sum := "0570098d19a70fdfe09e54cf5bf006d0a24c7ea851b707d2a17ee567d7f3da4b", func := "loop.example/g01248/laws.FnExactReadTrace", spec := "fnExactReadTrace", inPlace := ["internal/bytealg.CountString", "internal/bytealg.IndexByteString", "internal/bytealg.IndexString"], unfollowed := true, recurses := true, named := ["unicode/utf8.first", "unicode/utf8.acceptRanges", "internal/bytealg.MaxLen"], apart := false, laid := [("unicode/utf8.acceptRanges", laid_unicode_utf8_acceptRanges), ("unicode/utf8.first", laid_unicode_utf8_first)] }
def FnExactReadTraceSaid : Prop := fnExactReadTraceRow.holds Tryd.pinned (OpenSpec.ofChange fnExactReadTraceSpec)

/-- ITS FALSE NEIGHBOUR: 'it returns false'. Refute it at one input. -/
def fnExactReadTraceWrong : ChangeSpec := { name := "fnExactReadTrace", fn := fun _ => fun
  | [d1, d2] => { results := [.lit (.bool false)], args := [d1, d2] }
  | _ => none }
def FnExactReadTraceWrongFalsely : Prop := fnExactReadTraceRow.holds Tryd.pinned (OpenSpec.ofChange fnExactReadTraceWrong)

/-- 'laws.FnExactLineOf': WHATEVER THE INPUT: true; the input reads as it did. -/
def fnExactLineOfSpec : ChangeSpec := { name := "fnExactLineOf", fn := fun _ => fun
  | [d] => { results := [.lit (.bool true)], args := [d] }
  | _ => none }
def fnExactLineOfRow : OpenClaim := { program := "ytebdmdegmlblgaadoor", sum := "0570098d19a70fdfe09e54cf5bf006d0a24c7ea851b707d2a17ee567d7f3da4b", func := "loop.example/g01248/laws.FnExactLineOf", spec := "fnExactLineOf", inPlace := ["internal/bytealg.CountString", "internal/bytealg.IndexByteString", "internal/bytealg.IndexString", "internal/abi.NoEscape", "internal/bytealg.MakeNoZero"], named := ["unicode/utf8.first", "unicode/utf8.acceptRanges", "internal/bytealg.MaxLen"], apart := false, laid := [("unicode/utf8.acceptRanges", laid_unicode_utf8_acceptRanges), ("unicode/utf8.first", laid_unicode_utf8_first)] }
def FnExactLineOfSaid : Prop := fnExactLineOfRow.holds Tryd.pinned (OpenSpec.ofChange fnExactLineOfSpec)

/-- ITS FALSE NEIGHBOUR: 'it returns false'. Refute it at one input. -/
def fnExactLineOfWrong : ChangeSpec := { name := "fnExactLineOf", fn := fun _ => fun
  | [d] => { results := [.lit (.bool false)], args := [d] }
  | _ => none }
def FnExactLineOfWrongFalsely : Prop := fnExactLineOfRow.holds Tryd.pinned (OpenSpec.ofChange fnExactLineOfWrong)

/-- 'laws.FnExactSignalOf': WHATEVER THE INPUT: true; the input reads as it did. -/
def fnExactSignalOfSpec : ChangeSpec := { name := "fnExactSignalOf", fn := fun _ => fun
  | [d] => { results := [.lit (.bool true)], args := [d] }
  | _ => none }
def fnExactSignalOfRow : OpenClaim := { program := "ytebdmdegmlblgaadoor", sum := "0570098d19a70fdfe09e54cf5bf006d0a24c7ea851b707d2a17ee567d7f3da4b", func := "loop.example/g01248/laws.FnExactSignalOf", spec := "fnExactSignalOf", inPlace := ["internal/bytealg.IndexByteString", "internal/bytealg.IndexString", "internal/bytealg.CountString", "internal/abi.NoEscape", "internal/bytealg.MakeNoZero"], named := ["unicode/utf8.first", "unicode/utf8.acceptRanges", "internal/bytealg.MaxLen"], apart := false, laid := [("unicode/utf8.acceptRanges", laid_unicode_utf8_acceptRanges), ("unicode/utf8.first", laid_unicode_utf8_first)] }
def FnExactSignalOfSaid : Prop := fnExactSignalOfRow.holds Tryd.pinned (OpenSpec.ofChange fnExactSignalOfSpec)

/-- ITS FALSE NEIGHBOUR: 'it returns false'. Refute it at one input. -/
def fnExactSignalOfWrong : ChangeSpec := { name := "fnExactSignalOf", fn := fun _ => fun
  | [d] => { results := [.lit (.bool false)], args := [d] }
  | _ => none }
def FnExactSignalOfWrongFalsely : Prop := fnExactSignalOfRow.holds Tryd.pinned (OpenSpec.ofChange fnExactSignalOfWrong)

/-- 'laws.FnExactDecodeSignal': WHATEVER THE INPUT: true; the input reads as it did. -/
def fnExactDecodeSignalSpec : ChangeSpec := { name := "fnExactDecodeSignal", fn := fun _ => fun
  | [d1, d2] => { results := [.lit (.bool true)], args := [d1, d2] }
  | _ => none }
def fnExactDecodeSignalRow : OpenClaim := { program := "ytebdmdegmlblgaadoor", sum := "0570098d19a70fdfe09e54cf5bf006d0a24c7ea851b707d2a17ee567d7f3da4b", func := "loop.example/g01248/laws.FnExactDecodeSignal", spec := "fnExactDecodeSignal", inPlace := ["internal/bytealg.IndexByteString", "internal/bytealg.IndexString", "internal/bytealg.CountString", "internal/abi.NoEscape", "internal/bytealg.MakeNoZero"], named := ["unicode/utf8.first", "unicode/utf8.acceptRanges", "internal/bytealg.MaxLen"], apart := false, laid := [("unicode/utf8.acceptRanges", laid_unicode_utf8_acceptRanges), ("unicode/utf8.first", laid_unicode_utf8_first)] }
def FnExactDecodeSignalSaid : Prop := fnExactDecodeSignalRow.holds Tryd.pinned (OpenSpec.ofChange fnExactDecodeSignalSpec)

/-- ITS FALSE NEIGHBOUR: 'it returns false'. Refute it at one input. -/
def fnExactDecodeSignalWrong : ChangeSpec := { name := "fnExactDecodeSignal", fn := fun _ => fun
  | [d1, d2] => { results := [.lit (.bool false)], args := [d1, d2] }
  | _ => none }
def FnExactDecodeSignalWrongFalsely : Prop := fnExactDecodeSignalRow.holds Tryd.pinned (OpenSpec.ofChange fnExactDecodeSignalWrong)

/-- 'laws.FnExactReadLine': WHATEVER THE INPUT: true; the input reads as it did. -/
def fnExactReadLineSpec : ChangeSpec := { name := "fnExactReadLine", fn := fun _ => fun
  | [d] => { results := [.lit (.bool true)], args := [d] }
  | _ => none }
def fnExactReadLineRow : OpenClaim := { program := "ytebdmdegmlblgaadoor", sum := "0570098d19a70fdfe09e54cf5bf006d0a24c7ea851b707d2a17ee567d7f3da4b", func := "loop.example/g01248/laws.FnExactReadLine", spec := "fnExactReadLine", inPlace := ["internal/bytealg.IndexByteString", "internal/bytealg.IndexString", "internal/abi.NoEscape", "internal/bytealg.MakeNoZero", "internal/bytealg.CountString"], named := ["unicode/utf8.first", "unicode/utf8.acceptRanges", "internal/bytealg.MaxLen"], apart := false, laid := [("unicode/utf8.acceptRanges", laid_unicode_utf8_acceptRanges), ("unicode/utf8.first", laid_unicode_utf8_first)] }
def FnExactReadLineSaid : Prop := fnExactReadLineRow.holds Tryd.pinned (OpenSpec.ofChange fnExactReadLineSpec)

/-- ITS FALSE NEIGHBOUR: 'it returns false'. Refute it at one input. -/
def fnExactReadLineWrong : ChangeSpec := { name := "fnExactReadLine", fn := fun _ => fun
  | [d] => { results := [.lit (.bool false)], args := [d] }
  | _ => none }
def FnExactReadLineWrongFalsely : Prop := fnExactReadLineRow.holds Tryd.pinned (OpenSpec.ofChange fnExactReadLineWrong)

/- THE SECOND FORM. 'bulk': how many values and letters a reading holds, each counted each time it is reached (what is shared counts as often as it is met; a slice's spare places count too). A statement '..UptoSaid' is the law's where the arguments, and the package variables that the reading takes, are together of bulk at most 1048576: NARROWER than '..Said'. Prove '..Said' where nothing that the law and all that it calls make is longer than what came in: it says more and counts as full. Else prove '..UptoSaid'. A law counts once. -/
mutual
def uptoBulk {H : Type} : DataW H → Nat
  | .lit (.string bytes) => bytes.length + 1
  | .lit _ => 1
  | .nil => 1
  | .ptr d => uptoBulk d + 1
  | .slice elems spare => uptoBulkAll elems + uptoBulkAll spare + 1
  | .agg parts => uptoBulkAll parts + 1
  | .iface _ d => uptoBulk d + 1
  | .map entries => uptoBulkEntries entries + 1
  | .held _ => 1
def uptoBulkAll {H : Type} : List (DataW H) → Nat
  | [] => 0
  | d :: r => uptoBulk d + uptoBulkAll r
def uptoBulkEntries {H : Type} : List (Lit × DataW H) → Nat
  | [] => 0
  | x :: r => uptoBulkEntry x + uptoBulkEntries r
def uptoBulkEntry {H : Type} : Lit × DataW H → Nat
  | (.string bytes, d) => bytes.length + uptoBulk d + 1
  | (_, d) => uptoBulk d + 1
 end
def uptoSmall : (H : Type) → List (DataW H) → Bool := fun _ ds => decide (uptoBulkAll ds ≤ 1048576)
def OpenSpec.upto (s : _root_.Go.ChangeSpec) : _root_.Go.OpenSpec := { _root_.Go.OpenSpec.ofChange s with cond := some uptoSmall }

/-- 'laws.FnExactIsSignal', WHERE WHAT IT READS IS OF BULK AT MOST 1048576: true; the input reads as it did. -/
def fnExactIsSignalUptoRow : OpenClaim := { program := "ytebdmdegmlblgaadoor", sum := "0570098d19a70fdfe09e54cf5bf006d0a24c7ea851b707d2a17ee567d7f3da4b", func := "loop.example/g01248/laws.FnExactIsSignal", spec := "fnExactIsSignal", inPlace := ["internal/bytealg.CountString", "internal/bytealg.IndexByteString", "internal/bytealg.IndexString"], named := ["unicode/utf8.first", "unicode/utf8.acceptRanges", "internal/bytealg.MaxLen"], apart := false, laid := [("unicode/utf8.acceptRanges", laid_unicode_utf8_acceptRanges), ("unicode/utf8.first", laid_unicode_utf8_first)], narrowed := true }
def FnExactIsSignalUptoSaid : Prop := fnExactIsSignalUptoRow.holds Tryd.pinned (OpenSpec.upto fnExactIsSignalSpec)

/-- 'laws.FnExactTimeOfSignal', WHERE WHAT IT READS IS OF BULK AT MOST 1048576: true; the input reads as it did. -/
def fnExactTimeOfSignalUptoRow : OpenClaim := { program := "ytebdmdegmlblgaadoor", sum := "0570098d19a70fdfe09e54cf5bf006d0a24c7ea851b707d2a17ee567d7f3da4b", func := "loop.example/g01248/laws.FnExactTimeOfSignal", spec := "fnExactTimeOfSignal", inPlace := ["internal/bytealg.CountString", "internal/bytealg.IndexByteString", "internal/bytealg.IndexString"], named := ["unicode/utf8.first", "unicode/utf8.acceptRanges", "internal/bytealg.MaxLen"], apart := false, laid := [("unicode/utf8.acceptRanges", laid_unicode_utf8_acceptRanges), ("unicode/utf8.first", laid_unicode_utf8_first)], narrowed := true }
def FnExactTimeOfSignalUptoSaid : Prop := fnExactTimeOfSignalUptoRow.holds Tryd.pinned (OpenSpec.upto fnExactTimeOfSignalSpec)

/-- 'laws.FnExactReadTrace', WHERE WHAT IT READS IS OF BULK AT MOST 1048576: true; the input reads as it did. -/
def fnExactReadTraceUptoRow : OpenClaim := { program := "ytebdmdegmlblgaadoor", sum := "0570098d19a70fdfe09e54cf5bf006d0a24c7ea851b707d2a17ee567d7f3da4b", func := "loop.example/g01248/laws.FnExactReadTrace", spec := "fnExactReadTrace", inPlace := ["internal/bytealg.CountString", "internal/bytealg.IndexByteString", "internal/bytealg.IndexString"], unfollowed := true, recurses := true, named := ["unicode/utf8.first", "unicode/utf8.acceptRanges", "internal/bytealg.MaxLen"], apart := false, laid := [("unicode/utf8.acceptRanges", laid_unicode_utf8_acceptRanges), ("unicode/utf8.first", laid_unicode_utf8_first)], narrowed := true }
def FnExactReadTraceUptoSaid : Prop := fnExactReadTraceUptoRow.holds Tryd.pinned (OpenSpec.upto fnExactReadTraceSpec)

/-- 'laws.FnExactLineOf', WHERE WHAT IT READS IS OF BULK AT MOST 1048576: true; the input reads as it did. -/
def fnExactLineOfUptoRow : OpenClaim := { program := "ytebdmdegmlblgaadoor", sum := "0570098d19a70fdfe09e54cf5bf006d0a24c7ea851b707d2a17ee567d7f3da4b", func := "loop.example/g01248/laws.FnExactLineOf", spec := "fnExactLineOf", inPlace := ["internal/bytealg.CountString", "internal/bytealg.IndexByteString", "internal/bytealg.IndexString", "internal/abi.NoEscape", "internal/bytealg.MakeNoZero"], named := ["unicode/utf8.first", "unicode/utf8.acceptRanges", "internal/bytealg.MaxLen"], apart := false, laid := [("unicode/utf8.acceptRanges", laid_unicode_utf8_acceptRanges), ("unicode/utf8.first", laid_unicode_utf8_first)], narrowed := true }
def FnExactLineOfUptoSaid : Prop := fnExactLineOfUptoRow.holds Tryd.pinned (OpenSpec.upto fnExactLineOfSpec)

/-- 'laws.FnExactSignalOf', WHERE WHAT IT READS IS OF BULK AT MOST 1048576: true; the input reads as it did. -/
def fnExactSignalOfUptoRow : OpenClaim := { program := "ytebdmdegmlblgaadoor", sum := "0570098d19a70fdfe09e54cf5bf006d0a24c7ea851b707d2a17ee567d7f3da4b", func := "loop.example/g01248/laws.FnExactSignalOf", spec := "fnExactSignalOf", inPlace := ["internal/bytealg.IndexByteString", "internal/bytealg.IndexString", "internal/bytealg.CountString", "internal/abi.NoEscape", "internal/bytealg.MakeNoZero"], named := ["unicode/utf8.first", "unicode/utf8.acceptRanges", "internal/bytealg.MaxLen"], apart := false, laid := [("unicode/utf8.acceptRanges", laid_unicode_utf8_acceptRanges), ("unicode/utf8.first", laid_unicode_utf8_first)], narrowed := true }
def FnExactSignalOfUptoSaid : Prop := fnExactSignalOfUptoRow.holds Tryd.pinned (OpenSpec.upto fnExactSignalOfSpec)

/-- 'laws.FnExactDecodeSignal', WHERE WHAT IT READS IS OF BULK AT MOST 1048576: true; the input reads as it did. -/
def fnExactDecodeSignalUptoRow : OpenClaim := { program := "ytebdmdegmlblgaadoor", sum := "0570098d19a70fdfe09e54cf5bf006d0a24c7ea851b707d2a17ee567d7f3da4b", func := "loop.example/g01248/laws.FnExactDecodeSignal", spec := "fnExactDecodeSignal", inPlace := ["internal/bytealg.IndexByteString", "internal/bytealg.IndexString", "internal/bytealg.CountString", "internal/abi.NoEscape", "internal/bytealg.MakeNoZero"], named := ["unicode/utf8.first", "unicode/utf8.acceptRanges", "internal/bytealg.MaxLen"], apart := false, laid := [("unicode/utf8.acceptRanges", laid_unicode_utf8_acceptRanges), ("unicode/utf8.first", laid_unicode_utf8_first)], narrowed := true }
def FnExactDecodeSignalUptoSaid : Prop := fnExactDecodeSignalUptoRow.holds Tryd.pinned (OpenSpec.upto fnExactDecodeSignalSpec)

/-- 'laws.FnExactReadLine', WHERE WHAT IT READS IS OF BULK AT MOST 1048576: true; the input reads as it did. -/
def fnExactReadLineUptoRow : OpenClaim := { program := "ytebdmdegmlblgaadoor", sum := "0570098d19a70fdfe09e54cf5bf006d0a24c7ea851b707d2a17ee567d7f3da4b", func := "loop.example/g01248/laws.FnExactReadLine", spec := "fnExactReadLine", inPlace := ["internal/bytealg.IndexByteString", "internal/bytealg.IndexString", "internal/abi.NoEscape", "internal/bytealg.MakeNoZero", "internal/bytealg.CountString"], named := ["unicode/utf8.first", "unicode/utf8.acceptRanges", "internal/bytealg.MaxLen"], apart := false, laid := [("unicode/utf8.acceptRanges", laid_unicode_utf8_acceptRanges), ("unicode/utf8.first", laid_unicode_utf8_first)], narrowed := true }
def FnExactReadLineUptoSaid : Prop := fnExactReadLineUptoRow.holds Tryd.pinned (OpenSpec.upto fnExactReadLineSpec)

end Rows
end Go.Proofs.YtebdmdegmlblgaaDoor
