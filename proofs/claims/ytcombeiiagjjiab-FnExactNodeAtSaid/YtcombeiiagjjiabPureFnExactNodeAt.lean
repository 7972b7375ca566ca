/- What is proved: the statement FnExactNodeAt, in its pure form: the program's and the reference's NodeAt agree for all arguments (no conditions). -/
import Derived.Test.YtcombeiiagjjiabEq
namespace Go.Proofs.Ytcombeiiagjjiab.Pure
open Go.RowKit Go.Proofs.Ytcombeiiagjjiab.X Go.Proofs.Ytcombeiiagjjiab.M Go.Proofs.YtcombeiiagjjiabW.PrintWords Go.Proofs.YtcombeiiagjjiabW.PrintLast

theorem FnExactNodeAt : laws_FnExactNodeAt.Pure := by
  intro w h x y _ _ _ _
  unfold laws_FnExactNodeAt.f
  simp [laws_toGrid_eq, spec_NodeAt_eq, impl_NodeAt_eq]

end Go.Proofs.Ytcombeiiagjjiab.Pure
