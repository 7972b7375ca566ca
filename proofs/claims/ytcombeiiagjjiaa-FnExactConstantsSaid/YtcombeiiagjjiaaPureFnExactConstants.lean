/- What is proved: the statement FnExactConstants, in its pure form (no conditions). -/
import Derived.Test.YtcombeiiagjjiaaPFnExactConstantsx1
namespace Go.Proofs.Ytcombeiiagjjiaa.Pure
open Go.RowKit Go.Proofs.Ytcombeiiagjjiaa.PFnExactConstants Go.Proofs.YtcombeiiagjjiaaW.PrintWords Go.Proofs.YtcombeiiagjjiaaW.PrintLast

theorem FnExactConstants : laws_FnExactConstants.Pure := rfl

end Go.Proofs.Ytcombeiiagjjiaa.Pure
