/- What is proved: the statement FnExactRuleName, in its pure form, over numbers and lists: the program's and the reference's RuleName agree at every number (no conditions). -/
import Derived.Test.YtcombeiiagjjiaaX1
namespace Go.Proofs.Ytcombeiiagjjiaa.Pure
open Go.RowKit Go.Proofs.Ytcombeiiagjjiaa.X Go.Proofs.YtcombeiiagjjiaaW.PrintWords Go.Proofs.YtcombeiiagjjiaaW.PrintLast

theorem FnExactRuleName : laws_FnExactRuleName.Pure := by
  intro a _
  have h : ∃ s, spec_RuleName.f a = some s ∧ impl_RuleName.f a = some s := by
    by_cases h : 1 ≤ a ∧ a ≤ 4
    · have ha : a = 1 ∨ a = 2 ∨ a = 3 ∨ a = 4 := by omega
      rcases ha with rfl | rfl | rfl | rfl <;> exact ⟨_, by simp [spec_RuleName.f, spec_l01In.f, wrap64, rdOf], rfl⟩
    · have h1 : spec_l01In.f a 1 4 = some false := by
        unfold spec_l01In.f
        by_cases h0 : a ≥ 1
        · rw [if_pos h0]; simp; omega
        · rw [if_neg h0]
      have h2 : impl_inside.f a 1 4 = some false := by
        unfold impl_inside.f
        by_cases h0 : 1 ≤ a
        · rw [if_pos h0]; simp; omega
        · rw [if_neg h0]
      unfold spec_RuleName.f impl_RuleName.f
      rw [h1, h2]
      exact ⟨_, rfl, rfl⟩
  obtain ⟨s, h1, h2⟩ := h
  unfold laws_FnExactRuleName.f
  rw [h1, h2]
  simp

end Go.Proofs.Ytcombeiiagjjiaa.Pure
