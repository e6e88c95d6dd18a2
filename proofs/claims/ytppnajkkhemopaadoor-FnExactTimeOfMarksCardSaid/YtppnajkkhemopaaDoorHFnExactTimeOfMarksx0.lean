/- What the machine does at each Go function that the law reaches is what the Lean function of its name says. -/
import Derived.Test.YtppnajkkhemopaaDoorProg
import Derived.Below
import Derived.Deep.Draws
import Derived.Deep.AppendLies
import Derived.Maps.AppendAt
import Derived.OwnWalk
import Derived.Laws.BytesArg
import Derived.Laws.MakeOwn
import Derived.Laws.OwnMore
import Derived.Deep.OwnRows
import Derived.Tactics
import Derived.Lib.ConvBytes
import Derived.Laws.Slices
import Derived.WalkKit
import Derived.KernelRfl
import Derived.RowKit3
import Derived.Deep.LoopGhost
import Derived.Deep.QuietTactic
import Derived.BigQuiet
import Derived.WideLaws
import Derived.Deep.DeepCutAuto
import Derived.Deep.CutBlock
import Derived.Deep.RegionHeld3
import Derived.Laws.Rows
import Derived.Lib.AppendStr
import Derived.ArgAppend
import Derived.Laws.IdiomCopy
import Derived.OrdersHeld
import Derived.Laws.BitsLemmas
import Derived.RowKit
import Derived.Lib.SliceRun
import Derived.Test.YtppnajkkhemopaaDoorLay
import Derived.Test.YtppnajkkhemopaaDoorWWords
import Derived.Test.YtppnajkkhemopaaDoorWLast
import Derived.Test.YtppnajkkhemopaaDoorWTab
import Derived.Test.YtppnajkkhemopaaDoorWFour
import Derived.Test.YtppnajkkhemopaaDoorWQPut
import Derived.Test.YtppnajkkhemopaaDoorWApart
import Derived.Test.YtppnajkkhemopaaDoorWArr
import Derived.Test.YtppnajkkhemopaaDoorWZeros
import Derived.Test.YtppnajkkhemopaaDoorWFoot
import Derived.Test.YtppnajkkhemopaaDoorWKept
import Derived.Test.YtppnajkkhemopaaDoorWShare
import Derived.Test.YtppnajkkhemopaaDoorWN
import Derived.Test.YtppnajkkhemopaaDoorWFootNe
import Derived.Test.YtppnajkkhemopaaDoorWAt
import Derived.Test.YtppnajkkhemopaaDoorWEqStruct
import Derived.Test.YtppnajkkhemopaaDoorWRepsOne
import Derived.Test.YtppnajkkhemopaaDoorWInv
import Derived.Test.YtppnajkkhemopaaDoorWInvWords
import Derived.Test.YtppnajkkhemopaaDoorWGuard
import Derived.Test.YtppnajkkhemopaaDoorWNEv
import Derived.Test.YtppnajkkhemopaaDoorWMore
namespace Go.Proofs.YtppnajkkhemopaaDoor.HFnExactTimeOfMarks
open Go.RowKit Go.Proofs.YtppnajkkhemopaaDoorW.PrintWords Go.Proofs.YtppnajkkhemopaaDoorW.PrintLast Go.Proofs.YtppnajkkhemopaaDoorW.PrintMore
attribute [local go_sem] max2_int min2_int max_two min_two max_three min_three max_four min_four   -- for this text's walks alone
set_option linter.unusedVariables false
set_option linter.unusedSimpArgs false



def errW : Option Int → Value
  | none => .nilIface
  | some c => .iface 0 (.int .i64 c)
theorem errW_none : errW none = .nilIface := rfl
theorem errW_some (c : Int) : errW (some c) = .iface 0 (.int .i64 c) := rfl

-- the values' own types

end Go.Proofs.YtppnajkkhemopaaDoor.HFnExactTimeOfMarks
