/- The program's constants are the reference's: the printed law answers true. -/
import Derived.Test.YtdijofhhdmlinaaPFnExactConstantsx1
namespace Go.Proofs.Ytdijofhhdmlinaa.Pure
open Go.RowKit Go.Proofs.Ytdijofhhdmlinaa.PFnExactConstants Go.Proofs.YtdijofhhdmlinaaW.PrintWords Go.Proofs.YtdijofhhdmlinaaW.PrintLast

theorem FnExactConstants : laws_FnExactConstants.Pure := by
  unfold laws_FnExactConstants.Pure laws_FnExactConstants.f
  rfl

end Go.Proofs.Ytdijofhhdmlinaa.Pure
