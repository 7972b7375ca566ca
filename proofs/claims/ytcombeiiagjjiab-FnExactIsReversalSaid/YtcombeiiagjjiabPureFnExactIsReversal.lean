/- What is proved: the statement FnExactIsReversal, in its pure form: the program's and the reference's IsReversal agree for all arguments (no conditions). -/
import Derived.Test.YtcombeiiagjjiabEq
namespace Go.Proofs.Ytcombeiiagjjiab.Pure
open Go.RowKit Go.Proofs.Ytcombeiiagjjiab.X Go.Proofs.Ytcombeiiagjjiab.M Go.Proofs.YtcombeiiagjjiabW.PrintWords Go.Proofs.YtcombeiiagjjiabW.PrintLast

theorem FnExactIsReversal : laws_FnExactIsReversal.Pure := by
  intro t _
  unfold laws_FnExactIsReversal.f
  simp [spec_IsReversal_eq, impl_IsReversal_eq]

end Go.Proofs.Ytcombeiiagjjiab.Pure
