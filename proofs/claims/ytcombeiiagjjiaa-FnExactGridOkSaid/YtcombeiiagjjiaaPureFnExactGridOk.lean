/- What is proved: the statement FnExactGridOk, in its pure form, over numbers and lists: the program's and the reference's GridOk agree at every grid (no conditions). -/
import Derived.Test.YtcombeiiagjjiaaX1
namespace Go.Proofs.Ytcombeiiagjjiaa.Pure
open Go.RowKit Go.Proofs.Ytcombeiiagjjiaa.X Go.Proofs.YtcombeiiagjjiaaW.PrintWords Go.Proofs.YtcombeiiagjjiaaW.PrintLast

theorem FnExactGridOk : laws_FnExactGridOk.Pure := by
  intro a b _ _
  unfold laws_FnExactGridOk.f laws_toGrid.f spec_GridOk.f impl_GridOk.f spec_l01In.f impl_inside.f
  simp only [Option.bind_some]
  by_cases h1 : 1 ≤ a <;> by_cases h2 : a ≤ 4 <;> by_cases h3 : 1 ≤ b <;> by_cases h4 : b ≤ 4 <;> simp [h1, h2, h3, h4]

end Go.Proofs.Ytcombeiiagjjiaa.Pure
