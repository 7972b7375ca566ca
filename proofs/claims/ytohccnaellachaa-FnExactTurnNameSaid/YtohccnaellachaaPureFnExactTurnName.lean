/- What is proved: the statement FnExactTurnName, in its pure form, over numbers and lists: the program's and the reference's TurnName agree at every number (no conditions). -/
import Derived.Test.YtohccnaellachaaX4
import Derived.Test.YtohccnaellachaaModel
set_option linter.unusedVariables false
set_option linter.unusedSimpArgs false
namespace Go.Proofs.Ytohccnaellachaa.Pure
open Go.RowKit Go.Proofs.Ytohccnaellachaa.X Go.Proofs.Ytohccnaellachaa.M Go.Proofs.YtohccnaellachaaW.PrintWords Go.Proofs.YtohccnaellachaaW.PrintLast
theorem rd_nat (l : List Int) (i : Nat) (h : i < l.length) : rd l (i : Int) = l[i] := by unfold rd; simp [h]
theorem drop_rd (l : List Int) (i : Nat) (h : i < l.length) : l.drop i = rd l (i : Int) :: l.drop (i + 1) := by
  rw [rd_nat l i h]; exact List.drop_eq_getElem_cons h
theorem w64s {i : Nat} (h : i ≤ 9223372036854775806) : wrap64 ((i : Int) + 1) = ((i + 1 : Nat) : Int) := by rw [wrap64_id (by omega) (by omega)]; omega
theorem w64p {i : Nat} (h : i ≤ 9223372036854775806) (h0 : 0 < i) : wrap64 ((i : Int) - 1) = ((i - 1 : Nat) : Int) := by rw [wrap64_id (by omega) (by omega)]; omega

theorem impl_inside_eq (a b c : Int) : impl_inside.f a b c = some (inR a b c) := by
  unfold impl_inside.f inR
  by_cases h : b ≤ a <;> simp [h]

theorem spec_l01In_eq (a b c : Int) : spec_l01In.f a b c = some (inR a b c) := by
  unfold spec_l01In.f inR
  by_cases h : b ≤ a <;> simp [h]

theorem portName_both (p : Int) : ∃ s : ByteArray, spec_PortName.f p = some s ∧ impl_PortName.f p = some s ∧ s.size ≤ 5 := by
  unfold spec_PortName.f impl_PortName.f
  simp only [spec_l01In_eq, impl_inside_eq, Option.bind_some]
  by_cases r : inR p 0 4 = true
  · have b := inR_iff.1 r
    have hp : p = 0 ∨ p = 1 ∨ p = 2 ∨ p = 3 ∨ p = 4 := by omega
    rcases hp with rfl | rfl | rfl | rfl | rfl <;> exact ⟨_, rfl, rfl, by decide⟩
  · rw [if_neg r, if_neg r]
    exact ⟨_, rfl, rfl, by decide⟩
theorem FnExactTurnName : laws_FnExactTurnName.Pure := by
  intro t _
  refine ⟨1, ?_⟩
  have e : ∃ s, spec_TurnName.f 1 t = some s ∧ impl_TurnName.f 1 t = some s := by
    obtain ⟨s1, a1, b1, c1⟩ := portName_both (wrap64 (Int.tdiv t 4))
    obtain ⟨s2, a2, b2, c2⟩ := portName_both (Int.tmod t 4)
    unfold spec_TurnName.f impl_TurnName.f
    simp only [spec_l01In_eq, impl_inside_eq, Option.bind_some, spec_TurnName.j0, impl_TurnName.j0, a1, a2, b1, b2]
    have hz : (⟨#[45]⟩ : ByteArray).size = 1 := rfl
    rw [if_pos (show s1.size + 1 ≤ 9223372036854775807 by omega), if_pos (show (s1 ++ (⟨#[45]⟩ : ByteArray)).size + s2.size ≤ 9223372036854775807 by rw [ByteArray.size_append]; omega)]
    by_cases r : inR t 0 15 = true
    · rw [if_pos r]
      by_cases q : (wrap64 (Int.tdiv t 4) == Int.tmod t 4) = true
      · rw [if_pos q]; exact ⟨_, rfl, rfl⟩
      · rw [if_neg q]; exact ⟨_, rfl, rfl⟩
    · rw [if_neg r]; exact ⟨_, if_pos trivial, if_pos trivial⟩
  obtain ⟨s, e1, e2⟩ := e
  unfold laws_FnExactTurnName.f
  rw [e1, e2]
  simp

end Go.Proofs.Ytohccnaellachaa.Pure
