/- What is proved: the statement FnExactClamp, in its pure form: the program's and the reference's Clamp agree at all numbers (no conditions). -/
import Derived.Test.YtcombeiiagjjiaaPFnExactClampx1
namespace Go.Proofs.Ytcombeiiagjjiaa.Pure
open Go.RowKit Go.Proofs.Ytcombeiiagjjiaa.PFnExactClamp Go.Proofs.YtcombeiiagjjiaaW.PrintWords Go.Proofs.YtcombeiiagjjiaaW.PrintLast

theorem FnExactClamp : laws_FnExactClamp.Pure := by
  intro a b c _ _ _
  refine ⟨1, ?_⟩
  have h : spec_Clamp.f 1 a b c = impl_Clamp.f a b c := by
    unfold spec_Clamp.f impl_Clamp.f mx mn
    simp only [spec_Clamp.j0]
    by_cases h1 : c < b <;> by_cases h2 : a < b <;> by_cases h3 : c < a <;> simp [h1, h2, h3] <;> omega
  unfold laws_FnExactClamp.f
  rw [h]
  unfold impl_Clamp.f
  simp

end Go.Proofs.Ytcombeiiagjjiaa.Pure
