/- What is proved: the statement FnExactOpposite, in its pure form: the program's and the reference's Opposite agree at each number (no conditions). -/
import Derived.Test.YtcombeiiagjjiaaPFnExactOppositex1
namespace Go.Proofs.Ytcombeiiagjjiaa.Pure
open Go.RowKit Go.Proofs.Ytcombeiiagjjiaa.PFnExactOpposite Go.Proofs.YtcombeiiagjjiaaW.PrintWords Go.Proofs.YtcombeiiagjjiaaW.PrintLast

theorem FnExactOpposite : laws_FnExactOpposite.Pure := by
  intro a _
  have h : spec_Opposite.f a = impl_Opposite.f a := by
    unfold spec_Opposite.f impl_Opposite.f spec_l01In.f impl_inside.f
    rfl
  have h2 : ∃ r, impl_Opposite.f a = some r := by
    unfold impl_Opposite.f impl_inside.f
    repeat' split
    all_goals simp
    all_goals (split <;> simp)
  obtain ⟨r, h2⟩ := h2
  unfold laws_FnExactOpposite.f
  rw [h, h2]
  simp

end Go.Proofs.Ytcombeiiagjjiaa.Pure
