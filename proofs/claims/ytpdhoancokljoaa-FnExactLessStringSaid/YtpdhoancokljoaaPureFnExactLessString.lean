/- The law FnExactLessString: LessString answers as the reference does, for all strings; no condition. -/
import Derived.Test.YtpdhoancokljoaaPFnExactLessStringx1
namespace Go.Proofs.Ytpdhoancokljoaa.Pure
open Go.RowKit Go.Proofs.Ytpdhoancokljoaa.PFnExactLessString Go.Proofs.YtpdhoancokljoaaW.PrintWords Go.Proofs.YtpdhoancokljoaaW.PrintLast

theorem FnExactLessString : laws_FnExactLessString.Pure := by
  intro a0 a1 _ _
  unfold laws_FnExactLessString.f spec_LessString.f impl_LessString.f
  simp

end Go.Proofs.Ytpdhoancokljoaa.Pure
