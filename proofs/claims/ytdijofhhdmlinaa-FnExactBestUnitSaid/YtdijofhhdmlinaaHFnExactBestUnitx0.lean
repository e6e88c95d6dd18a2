/- What the machine does at each Go function that the law reaches is what the Lean function of its name says. -/
import Derived.Test.YtdijofhhdmlinaaProg
import Derived.Below
import Derived.Deep.Draws
import Derived.Deep.AppendLies
import Derived.Maps.AppendAt
import Derived.OwnWalk
import Derived.Laws.BytesArg
import Derived.Laws.MakeOwn
import Derived.Laws.OwnMore
import Derived.Deep.OwnRows
import Derived.Tactics
import Derived.Lib.ConvBytes
import Derived.Laws.Slices
import Derived.WalkKit
import Derived.KernelRfl
import Derived.RowKit3
import Derived.Deep.LoopGhost
import Derived.Deep.QuietTactic
import Derived.BigQuiet
import Derived.WideLaws
import Derived.Deep.DeepCutAuto
import Derived.Deep.CutBlock
import Derived.Deep.RegionHeld3
import Derived.Laws.Rows
import Derived.Lib.AppendStr
import Derived.ArgAppend
import Derived.Laws.IdiomCopy
import Derived.OrdersHeld
import Derived.Laws.BitsLemmas
import Derived.RowKit
import Derived.Test.YtdijofhhdmlinaaWWords
import Derived.Test.YtdijofhhdmlinaaWLast
import Derived.Test.YtdijofhhdmlinaaWTab
import Derived.Test.YtdijofhhdmlinaaWFour
import Derived.Test.YtdijofhhdmlinaaWQPut
import Derived.Test.YtdijofhhdmlinaaWApart
import Derived.Test.YtdijofhhdmlinaaWArr
import Derived.Test.YtdijofhhdmlinaaWZeros
import Derived.Test.YtdijofhhdmlinaaWFoot
import Derived.Test.YtdijofhhdmlinaaWKept
import Derived.Test.YtdijofhhdmlinaaWShare
import Derived.Test.YtdijofhhdmlinaaWN
import Derived.Test.YtdijofhhdmlinaaWFootNe
import Derived.Test.YtdijofhhdmlinaaWAt
import Derived.Test.YtdijofhhdmlinaaWEqStruct
import Derived.Test.YtdijofhhdmlinaaWRepsOne
import Derived.Test.YtdijofhhdmlinaaWInv
import Derived.Test.YtdijofhhdmlinaaWInvWords
import Derived.Test.YtdijofhhdmlinaaWGuard
import Derived.Test.YtdijofhhdmlinaaWNEv
import Derived.Test.YtdijofhhdmlinaaWMore
namespace Go.Proofs.Ytdijofhhdmlinaa.HFnExactBestUnit
open Go.RowKit Go.Proofs.YtdijofhhdmlinaaW.PrintWords Go.Proofs.YtdijofhhdmlinaaW.PrintLast Go.Proofs.YtdijofhhdmlinaaW.PrintMore
attribute [local go_sem] max2_int min2_int max_two min_two max_three min_three max_four min_four   -- for this text's walks alone
set_option linter.unusedVariables false
set_option linter.unusedSimpArgs false



def errW : Option Int → Value
  | none => .nilIface
  | some c => .iface 0 (.int .i64 c)
theorem errW_none : errW none = .nilIface := rfl
theorem errW_some (c : Int) : errW (some c) = .iface 0 (.int .i64 c) := rfl

theorem info3 : (Try.prog.info? 3).map (fun i => (i.zero, i.size, i.bytes)) = some (some (.int .i64 0), 1, 8) := by kernel_rfl
-- the values' own types

end Go.Proofs.Ytdijofhhdmlinaa.HFnExactBestUnit
