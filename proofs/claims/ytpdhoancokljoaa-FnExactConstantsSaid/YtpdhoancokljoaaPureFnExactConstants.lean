/- The law FnExactConstants: every exported constant has the value given in the specification; no condition. -/
import Derived.Test.YtpdhoancokljoaaPFnExactConstantsx1
namespace Go.Proofs.Ytpdhoancokljoaa.Pure
open Go.RowKit Go.Proofs.Ytpdhoancokljoaa.PFnExactConstants Go.Proofs.YtpdhoancokljoaaW.PrintWords Go.Proofs.YtpdhoancokljoaaW.PrintLast

theorem FnExactConstants : laws_FnExactConstants.Pure := rfl

end Go.Proofs.Ytpdhoancokljoaa.Pure
