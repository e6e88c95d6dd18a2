/- What the machine does at each Go function that the law reaches is what the Lean function of its name says. -/
import Derived.Test.YtajmbipefekecaaDoorProg
import Derived.Below
import Derived.Deep.Draws
import Derived.Deep.AppendLies
import Derived.Maps.AppendAt
import Derived.OwnWalk
import Derived.Laws.BytesArg
import Derived.Laws.MakeOwn
import Derived.Laws.OwnMore
import Derived.Deep.OwnRows
import Derived.Tactics
import Derived.Lib.ConvBytes
import Derived.Laws.Slices
import Derived.WalkKit
import Derived.KernelRfl
import Derived.RowKit3
import Derived.Deep.LoopGhost
import Derived.Deep.QuietTactic
import Derived.BigQuiet
import Derived.WideLaws
import Derived.Deep.DeepCutAuto
import Derived.Deep.CutBlock
import Derived.Deep.RegionHeld3
import Derived.Laws.Rows
import Derived.Lib.AppendStr
import Derived.ArgAppend
import Derived.Laws.IdiomCopy
import Derived.OrdersHeld
import Derived.Laws.BitsLemmas
import Derived.RowKit
import Derived.Lib.SliceRun
import Derived.Laws.IdiomStrings
import Derived.Lib.AtoiErrMem
import Derived.Lib.OwnBridge
import Derived.Maps.Own
import Derived.Maps.Views
import Derived.Test.YtajmbipefekecaaDoorLay
import Derived.Test.YtajmbipefekecaaDoorWWords
import Derived.Test.YtajmbipefekecaaDoorWLast
import Derived.Test.YtajmbipefekecaaDoorWTab
import Derived.Test.YtajmbipefekecaaDoorWFour
import Derived.Test.YtajmbipefekecaaDoorWQPut
import Derived.Test.YtajmbipefekecaaDoorWApart
import Derived.Test.YtajmbipefekecaaDoorWArr
import Derived.Test.YtajmbipefekecaaDoorWZeros
import Derived.Test.YtajmbipefekecaaDoorWFoot
import Derived.Test.YtajmbipefekecaaDoorWKept
import Derived.Test.YtajmbipefekecaaDoorWShare
import Derived.Test.YtajmbipefekecaaDoorWN
import Derived.Test.YtajmbipefekecaaDoorWFootNe
import Derived.Test.YtajmbipefekecaaDoorWAt
import Derived.Test.YtajmbipefekecaaDoorWEqStruct
import Derived.Test.YtajmbipefekecaaDoorWRepsOne
import Derived.Test.YtajmbipefekecaaDoorWInv
import Derived.Test.YtajmbipefekecaaDoorWInvWords
import Derived.Test.YtajmbipefekecaaDoorWGuard
import Derived.Test.YtajmbipefekecaaDoorWNEv
import Derived.Test.YtajmbipefekecaaDoorWMore
namespace Go.Proofs.YtajmbipefekecaaDoor.HFnExactCertainBorders
open Go.RowKit Go.Proofs.YtajmbipefekecaaDoorW.PrintWords Go.Proofs.YtajmbipefekecaaDoorW.PrintLast Go.Proofs.YtajmbipefekecaaDoorW.PrintMore
attribute [local go_sem] max2_int min2_int max_two min_two max_three min_three max_four min_four   -- for this text's walks alone
set_option linter.unusedVariables false
set_option linter.unusedSimpArgs false



def errW : Option Int → Value
  | none => .nilIface
  | some c => .iface 0 (.int .i64 c)
theorem errW_none : errW none = .nilIface := rfl
theorem errW_some (c : Int) : errW (some c) = .iface 0 (.int .i64 c) := rfl

theorem info3 : (Tryd.prog.info? 3).map (fun i => (i.zero, i.size, i.bytes)) = some (some (.int .i64 0), 1, 8) := by kernel_rfl
theorem info5 : (Tryd.prog.info? 5).map (fun i => (i.zero, i.size, i.bytes)) = some (some (.int .u8 0), 1, 1) := by kernel_rfl
theorem info9 : (Tryd.prog.info? 9).map (fun i => (i.zero, i.size, i.bytes)) = some (some (.string ⟨#[]⟩), 1, 16) := by kernel_rfl
-- the values' own types

end Go.Proofs.YtajmbipefekecaaDoor.HFnExactCertainBorders
