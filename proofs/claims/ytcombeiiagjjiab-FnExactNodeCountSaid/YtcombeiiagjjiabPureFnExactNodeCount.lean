/- What is proved: the statement FnExactNodeCount, in its pure form: the program's and the reference's NodeCount agree for all arguments (no conditions). -/
import Derived.Test.YtcombeiiagjjiabEq
namespace Go.Proofs.Ytcombeiiagjjiab.Pure
open Go.RowKit Go.Proofs.Ytcombeiiagjjiab.X Go.Proofs.Ytcombeiiagjjiab.M Go.Proofs.YtcombeiiagjjiabW.PrintWords Go.Proofs.YtcombeiiagjjiabW.PrintLast

theorem FnExactNodeCount : laws_FnExactNodeCount.Pure := by
  intro w h _ _
  unfold laws_FnExactNodeCount.f
  simp [laws_toGrid_eq, spec_NodeCount_eq, impl_NodeCount_eq]

end Go.Proofs.Ytcombeiiagjjiab.Pure
