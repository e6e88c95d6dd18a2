/- What the machine does at each Go function that the law reaches is what the Lean function of its name says. -/
import Derived.Test.YtpdojionnmehbaaDoorProg
import Derived.Below
import Derived.Deep.Draws
import Derived.Deep.AppendLies
import Derived.Maps.AppendAt
import Derived.OwnWalk
import Derived.Laws.BytesArg
import Derived.Laws.MakeOwn
import Derived.Laws.OwnMore
import Derived.Deep.OwnRows
import Derived.Tactics
import Derived.Lib.ConvBytes
import Derived.Laws.Slices
import Derived.WalkKit
import Derived.KernelRfl
import Derived.RowKit3
import Derived.Deep.LoopGhost
import Derived.Deep.QuietTactic
import Derived.BigQuiet
import Derived.WideLaws
import Derived.Deep.DeepCutAuto
import Derived.Deep.CutBlock
import Derived.Deep.RegionHeld3
import Derived.Laws.Rows
import Derived.Lib.AppendStr
import Derived.ArgAppend
import Derived.Laws.IdiomCopy
import Derived.OrdersHeld
import Derived.Laws.BitsLemmas
import Derived.RowKit
import Derived.Lib.SliceRun
import Derived.Laws.IdiomStrings
import Derived.Lib.AtoiErrMem
import Derived.Lib.OwnBridge
import Derived.Maps.Own
import Derived.Maps.Views
import Derived.Test.YtpdojionnmehbaaDoorLay
import Derived.Test.YtpdojionnmehbaaDoorWWords
import Derived.Test.YtpdojionnmehbaaDoorWLast
import Derived.Test.YtpdojionnmehbaaDoorWTab
import Derived.Test.YtpdojionnmehbaaDoorWFour
import Derived.Test.YtpdojionnmehbaaDoorWQPut
import Derived.Test.YtpdojionnmehbaaDoorWApart
import Derived.Test.YtpdojionnmehbaaDoorWArr
import Derived.Test.YtpdojionnmehbaaDoorWZeros
import Derived.Test.YtpdojionnmehbaaDoorWFoot
import Derived.Test.YtpdojionnmehbaaDoorWKept
import Derived.Test.YtpdojionnmehbaaDoorWShare
import Derived.Test.YtpdojionnmehbaaDoorWN
import Derived.Test.YtpdojionnmehbaaDoorWFootNe
import Derived.Test.YtpdojionnmehbaaDoorWAt
import Derived.Test.YtpdojionnmehbaaDoorWEqStruct
import Derived.Test.YtpdojionnmehbaaDoorWRepsOne
import Derived.Test.YtpdojionnmehbaaDoorWInv
import Derived.Test.YtpdojionnmehbaaDoorWInvWords
import Derived.Test.YtpdojionnmehbaaDoorWGuard
import Derived.Test.YtpdojionnmehbaaDoorWNEv
import Derived.Test.YtpdojionnmehbaaDoorWMore
namespace Go.Proofs.YtpdojionnmehbaaDoor.HFnExactParseInt
open Go.RowKit Go.Proofs.YtpdojionnmehbaaDoorW.PrintWords Go.Proofs.YtpdojionnmehbaaDoorW.PrintLast Go.Proofs.YtpdojionnmehbaaDoorW.PrintMore
attribute [local go_sem] max2_int min2_int max_two min_two max_three min_three max_four min_four   -- for this text's walks alone
set_option linter.unusedVariables false
set_option linter.unusedSimpArgs false



def errW : Option Int → Value
  | none => .nilIface
  | some c => .iface 0 (.int .i64 c)
theorem errW_none : errW none = .nilIface := rfl
theorem errW_some (c : Int) : errW (some c) = .iface 0 (.int .i64 c) := rfl

-- the values' own types

end Go.Proofs.YtpdojionnmehbaaDoor.HFnExactParseInt
