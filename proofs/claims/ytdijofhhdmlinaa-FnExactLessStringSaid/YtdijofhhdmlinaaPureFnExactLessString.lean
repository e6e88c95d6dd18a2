/- LessString of the program and of the reference answer alike at every two strings. -/
import Derived.Test.YtdijofhhdmlinaaPFnExactLessStringx1
namespace Go.Proofs.Ytdijofhhdmlinaa.Pure
open Go.RowKit Go.Proofs.Ytdijofhhdmlinaa.PFnExactLessString Go.Proofs.YtdijofhhdmlinaaW.PrintWords Go.Proofs.YtdijofhhdmlinaaW.PrintLast

theorem FnExactLessString : laws_FnExactLessString.Pure := by
  intro a0 a1 _ _
  unfold laws_FnExactLessString.f spec_LessString.f impl_LessString.f
  simp

end Go.Proofs.Ytdijofhhdmlinaa.Pure
