/-
  No cell of these rows narrows 'for every input' (looked for: loops, veiled, ifaces, maps, wideKeys, modest, calm, conditions, laid).
  DERIVED. THE GIVEN ROWS OF THIS SEAT. 11 by the template 'for every input the law returns true; each argument reads behind the call as it read before'; 0 by the template 'total and deterministic' (their statements: YtdijofhhdmlinaaTotals.lean).
  GIVEN WITH THE SEED: the statements are not yours to turn. If you find one false, say at which input.
  Laid BY PROGRAM, IN A SANDBOX (cutbox-rows.mjs): the forced cells as the released guide's own fill.sh prints them over the translation cc71f13fdd42ae3f… (all of the seat's roots in one cut). By AI agents, Wed Nov 11 2026. No macro, syntax, notation, axiom, sorry.
-/
import Derived.Test.YtdijofhhdmlinaaChecked
import GoSem.Claim
import GoSem.ClaimJoined
import GoSem.ClaimMapViews
import Derived.JoinedTies
import Derived.KernelRfl
namespace Go.Proofs.Ytdijofhhdmlinaa
/- THE CELL 'sum', in the pinned program and in every row, IS THE sha256 OF THE DUMP (.gsa) THAT YtdijofhhdmlinaaProg.lean LOADS. Nothing in Lean hashes anything: it is a label: what it is worth is what the hold of that sum in a sandbox is worth. -/
noncomputable def Try.pinned : Pinned := { name := "ytdijofhhdmlinaa", sum := "cc71f13fdd42ae3f9f0f06e076ea1703325deb043d159fb5cd15b064219d14db", checked := Try.checked }
namespace Rows
def none {H : Type} : Left H := { results := [], args := [] }

/-- 'laws.FnExactConstants': WHATEVER THE INPUT: true; the input reads as it did. -/
def fnExactConstantsSpec : ChangeSpec := { name := "fnExactConstants", fn := fun _ => fun
  | [] => { results := [.lit (.bool true)], args := [] }
  | _ => none }
def fnExactConstantsRow : OpenClaim := { program := "ytdijofhhdmlinaa", sum := "cc71f13fdd42ae3f9f0f06e076ea1703325deb043d159fb5cd15b064219d14db", func := "loop.example/g01248/laws.FnExactConstants", spec := "fnExactConstants", apart := false }
def FnExactConstantsSaid : Prop := fnExactConstantsRow.holds Try.pinned (OpenSpec.ofChange fnExactConstantsSpec)

/-- ITS FALSE NEIGHBOUR: 'it returns false'. Refute it at one input. -/
def fnExactConstantsWrong : ChangeSpec := { name := "fnExactConstants", fn := fun _ => fun
  | [] => { results := [.lit (.bool false)], args := [] }
  | _ => none }
def FnExactConstantsWrongFalsely : Prop := fnExactConstantsRow.holds Try.pinned (OpenSpec.ofChange fnExactConstantsWrong)

/-- 'laws.FnExactLessString': WHATEVER THE INPUT: true; the input reads as it did. -/
def fnExactLessStringSpec : ChangeSpec := { name := "fnExactLessString", fn := fun _ => fun
  | [d1, d2] => { results := [.lit (.bool true)], args := [d1, d2] }
  | _ => none }
def fnExactLessStringRow : OpenClaim := { program := "ytdijofhhdmlinaa", sum := "cc71f13fdd42ae3f9f0f06e076ea1703325deb043d159fb5cd15b064219d14db", func := "loop.example/g01248/laws.FnExactLessString", spec := "fnExactLessString", apart := false }
def FnExactLessStringSaid : Prop := fnExactLessStringRow.holds Try.pinned (OpenSpec.ofChange fnExactLessStringSpec)

/-- ITS FALSE NEIGHBOUR: 'it returns false'. Refute it at one input. -/
def fnExactLessStringWrong : ChangeSpec := { name := "fnExactLessString", fn := fun _ => fun
  | [d1, d2] => { results := [.lit (.bool false)], args := [d1, d2] }
  | _ => none }
def FnExactLessStringWrongFalsely : Prop := fnExactLessStringRow.holds Try.pinned (OpenSpec.ofChange fnExactLessStringWrong)

/-- 'laws.FnExactChecksum': WHATEVER THE INPUT: true; the input reads as it did. -/
def fnExactChecksumSpec : ChangeSpec := { name := "fnExactChecksum", fn := fun _ => fun
  | [d] => { results := [.lit (.bool true)], args := [d] }
  | _ => none }
def fnExactChecksumRow : OpenClaim := { program := "ytdijofhhdmlinaa", sum := "cc71f13fdd42ae3f9f0f06e076ea1703325deb043d159fb5cd15b064219d14db", func := "loop.example/g01248/laws.FnExactChecksum", spec := "fnExactChecksum", apart := false }
def FnExactChecksumSaid : Prop := fnExactChecksumRow.holds Try.pinned (OpenSpec.ofChange fnExactChecksumSpec)

/-- ITS FALSE NEIGHBOUR: 'it returns false'. Refute it at one input. -/
def fnExactChecksumWrong : ChangeSpec := { name := "fnExactChecksum", fn := fun _ => fun
  | [d] => { results := [.lit (.bool false)], args := [d] }
  | _ => none }
def FnExactChecksumWrongFalsely : Prop := fnExactChecksumRow.holds Try.pinned (OpenSpec.ofChange fnExactChecksumWrong)

/-- 'laws.FnExactIsTrace': WHATEVER THE INPUT: true; the input reads as it did. -/
def fnExactIsTraceSpec : ChangeSpec := { name := "fnExactIsTrace", fn := fun _ => fun
  | [d] => { results := [.lit (.bool true)], args := [d] }
  | _ => none }
def fnExactIsTraceRow : OpenClaim := { program := "ytdijofhhdmlinaa", sum := "cc71f13fdd42ae3f9f0f06e076ea1703325deb043d159fb5cd15b064219d14db", func := "loop.example/g01248/laws.FnExactIsTrace", spec := "fnExactIsTrace", unfollowed := true, recurses := true, apart := false }
def FnExactIsTraceSaid : Prop := fnExactIsTraceRow.holds Try.pinned (OpenSpec.ofChange fnExactIsTraceSpec)

/-- ITS FALSE NEIGHBOUR: 'it returns false'. Refute it at one input. -/
def fnExactIsTraceWrong : ChangeSpec := { name := "fnExactIsTrace", fn := fun _ => fun
  | [d] => { results := [.lit (.bool false)], args := [d] }
  | _ => none }
def FnExactIsTraceWrongFalsely : Prop := fnExactIsTraceRow.holds Try.pinned (OpenSpec.ofChange fnExactIsTraceWrong)

/-- 'laws.FnExactBackTrace': WHATEVER THE INPUT: true; the input reads as it did. -/
def fnExactBackTraceSpec : ChangeSpec := { name := "fnExactBackTrace", fn := fun _ => fun
  | [d] => { results := [.lit (.bool true)], args := [d] }
  | _ => none }
def fnExactBackTraceRow : OpenClaim := { program := "ytdijofhhdmlinaa", sum := "cc71f13fdd42ae3f9f0f06e076ea1703325deb043d159fb5cd15b064219d14db", func := "loop.example/g01248/laws.FnExactBackTrace", spec := "fnExactBackTrace", unfollowed := true, recurses := true, apart := false }
def FnExactBackTraceSaid : Prop := fnExactBackTraceRow.holds Try.pinned (OpenSpec.ofChange fnExactBackTraceSpec)

/-- ITS FALSE NEIGHBOUR: 'it returns false'. Refute it at one input. -/
def fnExactBackTraceWrong : ChangeSpec := { name := "fnExactBackTrace", fn := fun _ => fun
  | [d] => { results := [.lit (.bool false)], args := [d] }
  | _ => none }
def FnExactBackTraceWrongFalsely : Prop := fnExactBackTraceRow.holds Try.pinned (OpenSpec.ofChange fnExactBackTraceWrong)

/-- 'laws.FnExactStretchTrace': WHATEVER THE INPUT: true; the input reads as it did. -/
def fnExactStretchTraceSpec : ChangeSpec := { name := "fnExactStretchTrace", fn := fun _ => fun
  | [d1, d2, d3] => { results := [.lit (.bool true)], args := [d1, d2, d3] }
  | _ => none }
def fnExactStretchTraceRow : OpenClaim := { program := "ytdijofhhdmlinaa", sum := "cc71f13fdd42ae3f9f0f06e076ea1703325deb043d159fb5cd15b064219d14db", func := "loop.example/g01248/laws.FnExactStretchTrace", spec := "fnExactStretchTrace", unfollowed := true, recurses := true, apart := false }
def FnExactStretchTraceSaid : Prop := fnExactStretchTraceRow.holds Try.pinned (OpenSpec.ofChange fnExactStretchTraceSpec)

/-- ITS FALSE NEIGHBOUR: 'it returns false'. Refute it at one input. -/
def fnExactStretchTraceWrong : ChangeSpec := { name := "fnExactStretchTrace", fn := fun _ => fun
  | [d1, d2, d3] => { results := [.lit (.bool false)], args := [d1, d2, d3] }
  | _ => none }
def FnExactStretchTraceWrongFalsely : Prop := fnExactStretchTraceRow.holds Try.pinned (OpenSpec.ofChange fnExactStretchTraceWrong)

/-- 'laws.FnExactFillShort': WHATEVER THE INPUT: true; the input reads as it did. -/
def fnExactFillShortSpec : ChangeSpec := { name := "fnExactFillShort", fn := fun _ => fun
  | [d1, d2] => { results := [.lit (.bool true)], args := [d1, d2] }
  | _ => none }
def fnExactFillShortRow : OpenClaim := { program := "ytdijofhhdmlinaa", sum := "cc71f13fdd42ae3f9f0f06e076ea1703325deb043d159fb5cd15b064219d14db", func := "loop.example/g01248/laws.FnExactFillShort", spec := "fnExactFillShort", unfollowed := true, recurses := true, apart := false }
def FnExactFillShortSaid : Prop := fnExactFillShortRow.holds Try.pinned (OpenSpec.ofChange fnExactFillShortSpec)

/-- ITS FALSE NEIGHBOUR: 'it returns false'. Refute it at one input. -/
def fnExactFillShortWrong : ChangeSpec := { name := "fnExactFillShort", fn := fun _ => fun
  | [d1, d2] => { results := [.lit (.bool false)], args := [d1, d2] }
  | _ => none }
def FnExactFillShortWrongFalsely : Prop := fnExactFillShortRow.holds Try.pinned (OpenSpec.ofChange fnExactFillShortWrong)

/-- 'laws.FnExactDriftOf': WHATEVER THE INPUT: true; the input reads as it did. -/
def fnExactDriftOfSpec : ChangeSpec := { name := "fnExactDriftOf", fn := fun _ => fun
  | [d1, d2] => { results := [.lit (.bool true)], args := [d1, d2] }
  | _ => none }
def fnExactDriftOfRow : OpenClaim := { program := "ytdijofhhdmlinaa", sum := "cc71f13fdd42ae3f9f0f06e076ea1703325deb043d159fb5cd15b064219d14db", func := "loop.example/g01248/laws.FnExactDriftOf", spec := "fnExactDriftOf", unfollowed := true, recurses := true, apart := false }
def FnExactDriftOfSaid : Prop := fnExactDriftOfRow.holds Try.pinned (OpenSpec.ofChange fnExactDriftOfSpec)

/-- ITS FALSE NEIGHBOUR: 'it returns false'. Refute it at one input. -/
def fnExactDriftOfWrong : ChangeSpec := { name := "fnExactDriftOf", fn := fun _ => fun
  | [d1, d2] => { results := [.lit (.bool false)], args := [d1, d2] }
  | _ => none }
def FnExactDriftOfWrongFalsely : Prop := fnExactDriftOfRow.holds Try.pinned (OpenSpec.ofChange fnExactDriftOfWrong)

/-- 'laws.FnExactDropShort': WHATEVER THE INPUT: true; the input reads as it did. -/
def fnExactDropShortSpec : ChangeSpec := { name := "fnExactDropShort", fn := fun _ => fun
  | [d1, d2] => { results := [.lit (.bool true)], args := [d1, d2] }
  | _ => none }
def fnExactDropShortRow : OpenClaim := { program := "ytdijofhhdmlinaa", sum := "cc71f13fdd42ae3f9f0f06e076ea1703325deb043d159fb5cd15b064219d14db", func := "loop.example/g01248/laws.FnExactDropShort", spec := "fnExactDropShort", unfollowed := true, recurses := true, apart := false }
def FnExactDropShortSaid : Prop := fnExactDropShortRow.holds Try.pinned (OpenSpec.ofChange fnExactDropShortSpec)

/-- ITS FALSE NEIGHBOUR: 'it returns false'. Refute it at one input. -/
def fnExactDropShortWrong : ChangeSpec := { name := "fnExactDropShort", fn := fun _ => fun
  | [d1, d2] => { results := [.lit (.bool false)], args := [d1, d2] }
  | _ => none }
def FnExactDropShortWrongFalsely : Prop := fnExactDropShortRow.holds Try.pinned (OpenSpec.ofChange fnExactDropShortWrong)

/-- 'laws.FnExactJoinTraces': WHATEVER THE INPUT: true; the input reads as it did. -/
def fnExactJoinTracesSpec : ChangeSpec := { name := "fnExactJoinTraces", fn := fun _ => fun
  | [d1, d2, d3] => { results := [.lit (.bool true)], args := [d1, d2, d3] }
  | _ => none }
def fnExactJoinTracesRow : OpenClaim := { program := "ytdijofhhdmlinaa", sum := "cc71f13fdd42ae3f9f0f06e076ea1703325deb043d159fb5cd15b064219d14db", func := "loop.example/g01248/laws.FnExactJoinTraces", spec := "fnExactJoinTraces", unfollowed := true, recurses := true, apart := false }
def FnExactJoinTracesSaid : Prop := fnExactJoinTracesRow.holds Try.pinned (OpenSpec.ofChange fnExactJoinTracesSpec)

/-- ITS FALSE NEIGHBOUR: 'it returns false'. Refute it at one input. -/
def fnExactJoinTracesWrong : ChangeSpec := { name := "fnExactJoinTraces", fn := fun _ => fun
  | [d1, d2, d3] => { results := [.lit (.bool false)], args := [d1, d2, d3] }
  | _ => none }
def FnExactJoinTracesWrongFalsely : Prop := fnExactJoinTracesRow.holds Try.pinned (OpenSpec.ofChange fnExactJoinTracesWrong)

/-- 'laws.FnExactBestUnit': WHATEVER THE INPUT: true; the input reads as it did. -/
def fnExactBestUnitSpec : ChangeSpec := { name := "fnExactBestUnit", fn := fun _ => fun
  | [d] => { results := [.lit (.bool true)], args := [d] }
  | _ => none }
def fnExactBestUnitRow : OpenClaim := { program := "ytdijofhhdmlinaa", sum := "cc71f13fdd42ae3f9f0f06e076ea1703325deb043d159fb5cd15b064219d14db", func := "loop.example/g01248/laws.FnExactBestUnit", spec := "fnExactBestUnit", unfollowed := true, recurses := true, apart := false }
def FnExactBestUnitSaid : Prop := fnExactBestUnitRow.holds Try.pinned (OpenSpec.ofChange fnExactBestUnitSpec)

/-- ITS FALSE NEIGHBOUR: 'it returns false'. Refute it at one input. -/
def fnExactBestUnitWrong : ChangeSpec := { name := "fnExactBestUnit", fn := fun _ => fun
  | [d] => { results := [.lit (.bool false)], args := [d] }
  | _ => none }
def FnExactBestUnitWrongFalsely : Prop := fnExactBestUnitRow.holds Try.pinned (OpenSpec.ofChange fnExactBestUnitWrong)

/- THE SECOND FORM. 'bulk': how many values and letters a reading holds, each counted each time it is reached (what is shared counts as often as it is met; a slice's spare places count too). A statement '..UptoSaid' is the law's where the arguments, and the package variables that the reading takes, are together of bulk at most 1048576: NARROWER than '..Said'. Prove '..Said' where nothing that the law and all that it calls make is longer than what came in: it says more and counts as full. Else prove '..UptoSaid'. A law counts once. -/
mutual
def uptoBulk {H : Type} : DataW H → Nat
  | .lit (.string bytes) => bytes.length + 1
  | .lit _ => 1
  | .nil => 1
  | .ptr d => uptoBulk d + 1
  | .slice elems spare => uptoBulkAll elems + uptoBulkAll spare + 1
  | .agg parts => uptoBulkAll parts + 1
  | .iface _ d => uptoBulk d + 1
  | .map entries => uptoBulkEntries entries + 1
  | .held _ => 1
def uptoBulkAll {H : Type} : List (DataW H) → Nat
  | [] => 0
  | d :: r => uptoBulk d + uptoBulkAll r
def uptoBulkEntries {H : Type} : List (Lit × DataW H) → Nat
  | [] => 0
  | x :: r => uptoBulkEntry x + uptoBulkEntries r
def uptoBulkEntry {H : Type} : Lit × DataW H → Nat
  | (.string bytes, d) => bytes.length + uptoBulk d + 1
  | (_, d) => uptoBulk d + 1
 end
def uptoSmall : (H : Type) → List (DataW H) → Bool := fun _ ds => decide (uptoBulkAll ds ≤ 1048576)
def OpenSpec.upto (s : _root_.Go.ChangeSpec) : _root_.Go.OpenSpec := { _root_.Go.OpenSpec.ofChange s with cond := some uptoSmall }

/-- 'laws.FnExactConstants', WHERE WHAT IT READS IS OF BULK AT MOST 1048576: true; the input reads as it did. -/
def fnExactConstantsUptoRow : OpenClaim := { program := "ytdijofhhdmlinaa", sum := "cc71f13fdd42ae3f9f0f06e076ea1703325deb043d159fb5cd15b064219d14db", func := "loop.example/g01248/laws.FnExactConstants", spec := "fnExactConstants", apart := false, narrowed := true }
def FnExactConstantsUptoSaid : Prop := fnExactConstantsUptoRow.holds Try.pinned (OpenSpec.upto fnExactConstantsSpec)

/-- 'laws.FnExactLessString', WHERE WHAT IT READS IS OF BULK AT MOST 1048576: true; the input reads as it did. -/
def fnExactLessStringUptoRow : OpenClaim := { program := "ytdijofhhdmlinaa", sum := "cc71f13fdd42ae3f9f0f06e076ea1703325deb043d159fb5cd15b064219d14db", func := "loop.example/g01248/laws.FnExactLessString", spec := "fnExactLessString", apart := false, narrowed := true }
def FnExactLessStringUptoSaid : Prop := fnExactLessStringUptoRow.holds Try.pinned (OpenSpec.upto fnExactLessStringSpec)

/-- 'laws.FnExactChecksum', WHERE WHAT IT READS IS OF BULK AT MOST 1048576: true; the input reads as it did. -/
def fnExactChecksumUptoRow : OpenClaim := { program := "ytdijofhhdmlinaa", sum := "cc71f13fdd42ae3f9f0f06e076ea1703325deb043d159fb5cd15b064219d14db", func := "loop.example/g01248/laws.FnExactChecksum", spec := "fnExactChecksum", apart := false, narrowed := true }
def FnExactChecksumUptoSaid : Prop := fnExactChecksumUptoRow.holds Try.pinned (OpenSpec.upto fnExactChecksumSpec)

/-- 'laws.FnExactIsTrace', WHERE WHAT IT READS IS OF BULK AT MOST 1048576: true; the input reads as it did. -/
def fnExactIsTraceUptoRow : OpenClaim := { program := "ytdijofhhdmlinaa", sum := "cc71f13fdd42ae3f9f0f06e076ea1703325deb043d159fb5cd15b064219d14db", func := "loop.example/g01248/laws.FnExactIsTrace", spec := "fnExactIsTrace", unfollowed := true, recurses := true, apart := false, narrowed := true }
def FnExactIsTraceUptoSaid : Prop := fnExactIsTraceUptoRow.holds Try.pinned (OpenSpec.upto fnExactIsTraceSpec)

/-- 'laws.FnExactBackTrace', WHERE WHAT IT READS IS OF BULK AT MOST 1048576: true; the input reads as it did. -/
def fnExactBackTraceUptoRow : OpenClaim := { program := "ytdijofhhdmlinaa", sum := "cc71f13fdd42ae3f9f0f06e076ea1703325deb043d159fb5cd15b064219d14db", func := "loop.example/g01248/laws.FnExactBackTrace", spec := "fnExactBackTrace", unfollowed := true, recurses := true, apart := false, narrowed := true }
def FnExactBackTraceUptoSaid : Prop := fnExactBackTraceUptoRow.holds Try.pinned (OpenSpec.upto fnExactBackTraceSpec)

/-- 'laws.FnExactStretchTrace', WHERE WHAT IT READS IS OF BULK AT MOST 1048576: true; the input reads as it did. -/
def fnExactStretchTraceUptoRow : OpenClaim := { program := "ytdijofhhdmlinaa", sum := "cc71f13fdd42ae3f9f0f06e076ea1703325deb043d159fb5cd15b064219d14db", func := "loop.example/g01248/laws.FnExactStretchTrace", spec := "fnExactStretchTrace", unfollowed := true, recurses := true, apart := false, narrowed := true }
def FnExactStretchTraceUptoSaid : Prop := fnExactStretchTraceUptoRow.holds Try.pinned (OpenSpec.upto fnExactStretchTraceSpec)

/-- 'laws.FnExactFillShort', WHERE WHAT IT READS IS OF BULK AT MOST 1048576: true; the input reads as it did. -/
def fnExactFillShortUptoRow : OpenClaim := { program := "ytdijofhhdmlinaa", sum := "cc71f13fdd42ae3f9f0f06e076ea1703325deb043d159fb5cd15b064219d14db", func := "loop.example/g01248/laws.FnExactFillShort", spec := "fnExactFillShort", unfollowed := true, recurses := true, apart := false, narrowed := true }
def FnExactFillShortUptoSaid : Prop := fnExactFillShortUptoRow.holds Try.pinned (OpenSpec.upto fnExactFillShortSpec)

/-- 'laws.FnExactDriftOf', WHERE WHAT IT READS IS OF BULK AT MOST 1048576: true; the input reads as it did. -/
def fnExactDriftOfUptoRow : OpenClaim := { program := "ytdijofhhdmlinaa", sum := "cc71f13fdd42ae3f9f0f06e076ea1703325deb043d159fb5cd15b064219d14db", func := "loop.example/g01248/laws.FnExactDriftOf", spec := "fnExactDriftOf", unfollowed := true, recurses := true, apart := false, narrowed := true }
def FnExactDriftOfUptoSaid : Prop := fnExactDriftOfUptoRow.holds Try.pinned (OpenSpec.upto fnExactDriftOfSpec)

/-- 'laws.FnExactDropShort', WHERE WHAT IT READS IS OF BULK AT MOST 1048576: true; the input reads as it did. -/
def fnExactDropShortUptoRow : OpenClaim := { program := "ytdijofhhdmlinaa", sum := "cc71f13fdd42ae3f9f0f06e076ea1703325deb043d159fb5cd15b064219d14db", func := "loop.example/g01248/laws.FnExactDropShort", spec := "fnExactDropShort", unfollowed := true, recurses := true, apart := false, narrowed := true }
def FnExactDropShortUptoSaid : Prop := fnExactDropShortUptoRow.holds Try.pinned (OpenSpec.upto fnExactDropShortSpec)

/-- 'laws.FnExactJoinTraces', WHERE WHAT IT READS IS OF BULK AT MOST 1048576: true; the input reads as it did. -/
def fnExactJoinTracesUptoRow : OpenClaim := { program := "ytdijofhhdmlinaa", sum := "cc71f13fdd42ae3f9f0f06e076ea1703325deb043d159fb5cd15b064219d14db", func := "loop.example/g01248/laws.FnExactJoinTraces", spec := "fnExactJoinTraces", unfollowed := true, recurses := true, apart := false, narrowed := true }
def FnExactJoinTracesUptoSaid : Prop := fnExactJoinTracesUptoRow.holds Try.pinned (OpenSpec.upto fnExactJoinTracesSpec)

/-- 'laws.FnExactBestUnit', WHERE WHAT IT READS IS OF BULK AT MOST 1048576: true; the input reads as it did. -/
def fnExactBestUnitUptoRow : OpenClaim := { program := "ytdijofhhdmlinaa", sum := "cc71f13fdd42ae3f9f0f06e076ea1703325deb043d159fb5cd15b064219d14db", func := "loop.example/g01248/laws.FnExactBestUnit", spec := "fnExactBestUnit", unfollowed := true, recurses := true, apart := false, narrowed := true }
def FnExactBestUnitUptoSaid : Prop := fnExactBestUnitUptoRow.holds Try.pinned (OpenSpec.upto fnExactBestUnitSpec)

end Rows
end Go.Proofs.Ytdijofhhdmlinaa
