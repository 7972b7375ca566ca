/- What is proved: the statement FnExactDiameter, in its pure form: the program's and the reference's Diameter agree for all arguments (no conditions). -/
import Derived.Test.YtcombeiiagjjiabEq
namespace Go.Proofs.Ytcombeiiagjjiab.Pure
open Go.RowKit Go.Proofs.Ytcombeiiagjjiab.X Go.Proofs.Ytcombeiiagjjiab.M Go.Proofs.YtcombeiiagjjiabW.PrintWords Go.Proofs.YtcombeiiagjjiabW.PrintLast

theorem FnExactDiameter : laws_FnExactDiameter.Pure := by
  intro w h _ _
  unfold laws_FnExactDiameter.f
  simp [laws_toGrid_eq, spec_Diameter_eq, impl_Diameter_eq]

end Go.Proofs.Ytcombeiiagjjiab.Pure
