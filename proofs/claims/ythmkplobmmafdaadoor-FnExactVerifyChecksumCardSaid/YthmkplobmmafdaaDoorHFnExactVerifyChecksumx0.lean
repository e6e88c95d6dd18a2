/- What the machine does at each Go function that the law reaches is what the Lean function of its name says. -/
import Derived.Test.YthmkplobmmafdaaDoorProg
import Derived.Below
import Derived.Deep.Draws
import Derived.Deep.AppendLies
import Derived.Maps.AppendAt
import Derived.OwnWalk
import Derived.Laws.BytesArg
import Derived.Laws.MakeOwn
import Derived.Laws.OwnMore
import Derived.Deep.OwnRows
import Derived.Tactics
import Derived.Lib.ConvBytes
import Derived.Laws.Slices
import Derived.WalkKit
import Derived.KernelRfl
import Derived.RowKit3
import Derived.Deep.LoopGhost
import Derived.Deep.QuietTactic
import Derived.BigQuiet
import Derived.WideLaws
import Derived.Deep.DeepCutAuto
import Derived.Deep.CutBlock
import Derived.Deep.RegionHeld3
import Derived.Laws.Rows
import Derived.Lib.AppendStr
import Derived.ArgAppend
import Derived.Laws.IdiomCopy
import Derived.OrdersHeld
import Derived.Laws.BitsLemmas
import Derived.RowKit
import Derived.Lib.SliceRun
import Derived.Test.YthmkplobmmafdaaDoorLay
import Derived.Test.YthmkplobmmafdaaDoorWWords
import Derived.Test.YthmkplobmmafdaaDoorWLast
import Derived.Test.YthmkplobmmafdaaDoorWTab
import Derived.Test.YthmkplobmmafdaaDoorWFour
import Derived.Test.YthmkplobmmafdaaDoorWQPut
import Derived.Test.YthmkplobmmafdaaDoorWApart
import Derived.Test.YthmkplobmmafdaaDoorWArr
import Derived.Test.YthmkplobmmafdaaDoorWZeros
import Derived.Test.YthmkplobmmafdaaDoorWFoot
import Derived.Test.YthmkplobmmafdaaDoorWKept
import Derived.Test.YthmkplobmmafdaaDoorWShare
import Derived.Test.YthmkplobmmafdaaDoorWN
import Derived.Test.YthmkplobmmafdaaDoorWFootNe
import Derived.Test.YthmkplobmmafdaaDoorWAt
import Derived.Test.YthmkplobmmafdaaDoorWEqStruct
import Derived.Test.YthmkplobmmafdaaDoorWRepsOne
import Derived.Test.YthmkplobmmafdaaDoorWInv
import Derived.Test.YthmkplobmmafdaaDoorWInvWords
import Derived.Test.YthmkplobmmafdaaDoorWGuard
import Derived.Test.YthmkplobmmafdaaDoorWNEv
import Derived.Test.YthmkplobmmafdaaDoorWMore
namespace Go.Proofs.YthmkplobmmafdaaDoor.HFnExactVerifyChecksum
open Go.RowKit Go.Proofs.YthmkplobmmafdaaDoorW.PrintWords Go.Proofs.YthmkplobmmafdaaDoorW.PrintLast Go.Proofs.YthmkplobmmafdaaDoorW.PrintMore
attribute [local go_sem] max2_int min2_int max_two min_two max_three min_three max_four min_four   -- for this text's walks alone
set_option linter.unusedVariables false
set_option linter.unusedSimpArgs false



def errW : Option Int → Value
  | none => .nilIface
  | some c => .iface 0 (.int .i64 c)
theorem errW_none : errW none = .nilIface := rfl
theorem errW_some (c : Int) : errW (some c) = .iface 0 (.int .i64 c) := rfl

theorem info9 : (Tryd.prog.info? 9).map (fun i => (i.zero, i.size, i.bytes)) = some (some (.string ⟨#[]⟩), 1, 16) := by kernel_rfl
-- the values' own types

end Go.Proofs.YthmkplobmmafdaaDoor.HFnExactVerifyChecksum
