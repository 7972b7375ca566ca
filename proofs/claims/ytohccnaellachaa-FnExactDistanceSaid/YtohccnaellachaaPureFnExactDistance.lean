/- What is proved: the statement FnExactDistance, in its pure form, over numbers and lists: the program's and the reference's Distance agree for all arguments (no conditions). -/
import Derived.Test.YtohccnaellachaaX7
import Derived.Test.YtohccnaellachaaModel
set_option linter.unusedVariables false
set_option linter.unusedSimpArgs false
namespace Go.Proofs.Ytohccnaellachaa.Pure
open Go.RowKit Go.Proofs.Ytohccnaellachaa.X Go.Proofs.Ytohccnaellachaa.M Go.Proofs.YtohccnaellachaaW.PrintWords Go.Proofs.YtohccnaellachaaW.PrintLast
theorem rd_nat (l : List Int) (i : Nat) (h : i < l.length) : rd l (i : Int) = l[i] := by unfold rd; simp [h]
theorem drop_rd (l : List Int) (i : Nat) (h : i < l.length) : l.drop i = rd l (i : Int) :: l.drop (i + 1) := by
  rw [rd_nat l i h]; exact List.drop_eq_getElem_cons h
theorem w64s {i : Nat} (h : i ≤ 9223372036854775806) : wrap64 ((i : Int) + 1) = ((i + 1 : Nat) : Int) := by rw [wrap64_id (by omega) (by omega)]; omega
theorem w64p {i : Nat} (h : i ≤ 9223372036854775806) (h0 : 0 < i) : wrap64 ((i : Int) - 1) = ((i - 1 : Nat) : Int) := by rw [wrap64_id (by omega) (by omega)]; omega

theorem impl_inside_eq (a b c : Int) : impl_inside.f a b c = some (inR a b c) := by
  unfold impl_inside.f inR
  by_cases h : b ≤ a <;> simp [h]

theorem impl_GridOk_eq (w h : Int) : impl_GridOk.f w h = some (gok w h) := by
  unfold impl_GridOk.f gok
  simp only [impl_inside_eq, Option.bind_some]
  cases inR w 1 4 <;> rfl

theorem impl_NodeCount_eq (w h : Int) : impl_NodeCount.f w h = some (cnt w h) := by
  unfold impl_NodeCount.f
  simp only [impl_GridOk_eq, Option.bind_some]
  by_cases g : gok w h = true
  · have b := cnt_bd w h
    rw [if_pos g, cnt_ok g]
    rw [cnt_ok g] at b
    rw [wrap64_id (by omega) (by omega)]
  · rw [if_neg g, cnt_no (by simpa using g)]

theorem impl_isNode_eq (w h n : Int) : impl_isNode.f w h n = some (nd w h n) := by
  have b := cnt_bd w h
  unfold impl_isNode.f nd
  simp only [impl_NodeCount_eq, impl_inside_eq, Option.bind_some]
  rw [wrap64_id (by omega) (by omega)]

theorem impl_gap_eq {a b : Int} (h : -100 ≤ a ∧ a ≤ 100) (h2 : -100 ≤ b ∧ b ≤ 100) : impl_gap.f a b = some (absd a b) := by
  unfold impl_gap.f absd mx
  rw [wrap64_id (x := a - b) (by omega) (by omega), wrap64_id (by omega) (by omega)]
  by_cases c : a ≤ b
  · rw [if_pos c]; split <;> (congr 1 <;> omega)
  · rw [if_neg c]; split <;> (congr 1 <;> omega)

theorem impl_Distance_eq (w h a b : Int) (k : Nat) (hk : 1 ≤ k) : impl_Distance.f k w h a b = some (dist w h a b) := by
  obtain ⟨k, rfl⟩ : ∃ m, k = m + 1 := ⟨k - 1, by omega⟩
  unfold impl_Distance.f dist
  simp only [impl_isNode_eq, Option.bind_some, impl_Distance.j0]
  by_cases d : nd w h a = true
  · rw [if_pos d]
    by_cases e : nd w h b = true
    · have b1 := nd_bd d
      have b2 := nd_bd e
      rw [if_neg (show ¬ ((!nd w h b) = true) by simp [e]), if_pos (show (nd w h a && nd w h b) = true by simp [d, e]), if_neg (show ¬ w = 0 by omega), tmod_of (by omega), tmod_of (by omega), tdiv_of (by omega), tdiv_of (by omega), wrap64_id (x := a / w) (by omega) (by omega), wrap64_id (x := b / w) (by omega) (by omega)]
      rw [impl_gap_eq (by omega) (by omega), impl_gap_eq (by omega) (by omega)]
      simp only [Option.bind_some]
      rw [wrap64_id (by unfold absd; split <;> split <;> omega) (by unfold absd; split <;> split <;> omega)]
    · rw [if_pos (show (!nd w h b) = true by simp [e]), if_neg (show ¬ (nd w h a && nd w h b) = true by simp [e])]
  · rw [if_neg d, if_pos trivial, if_neg (show ¬ (nd w h a && nd w h b) = true by simp [d])]

theorem spec_l01In_eq (a b c : Int) : spec_l01In.f a b c = some (inR a b c) := by
  unfold spec_l01In.f inR
  by_cases h : b ≤ a <;> simp [h]

theorem spec_GridOk_eq (w h : Int) : spec_GridOk.f w h = some (gok w h) := by
  unfold spec_GridOk.f gok
  simp only [spec_l01In_eq, Option.bind_some]
  cases inR w 1 4 <;> rfl

theorem spec_NodeCount_eq (w h : Int) : spec_NodeCount.f w h = some (cnt w h) := by
  unfold spec_NodeCount.f
  simp only [spec_GridOk_eq, Option.bind_some]
  by_cases g : gok w h = true
  · have b := cnt_bd w h
    rw [if_pos g, cnt_ok g]
    rw [cnt_ok g] at b
    rw [wrap64_id (by omega) (by omega)]
  · rw [if_neg g, cnt_no (by simpa using g)]

theorem spec_l02Has_eq (w h n : Int) : spec_l02Has.f w h n = some (nd w h n) := by
  have b := cnt_bd w h
  unfold spec_l02Has.f nd
  simp only [spec_NodeCount_eq, spec_l01In_eq, Option.bind_some]
  rw [wrap64_id (by omega) (by omega)]

theorem spec_l02Abs_eq {a b : Int} (h : -100 ≤ a ∧ a ≤ 100) (h2 : -100 ≤ b ∧ b ≤ 100) : spec_l02Abs.f (wrap64 (a - b)) = some (absd a b) := by
  unfold spec_l02Abs.f absd mx
  rw [wrap64_id (x := a - b) (by omega) (by omega), wrap64_id (by omega) (by omega)]
  by_cases c : a ≤ b
  · rw [if_pos c]; split <;> (congr 1 <;> omega)
  · rw [if_neg c]; split <;> (congr 1 <;> omega)

theorem spec_Distance_eq (w h a b : Int) (k : Nat) (hk : 1 ≤ k) : spec_Distance.f k w h a b = some (dist w h a b) := by
  obtain ⟨k, rfl⟩ : ∃ m, k = m + 1 := ⟨k - 1, by omega⟩
  unfold spec_Distance.f dist
  simp only [spec_l02Has_eq, Option.bind_some, spec_Distance.j0]
  by_cases d : nd w h a = true
  · rw [if_pos d]
    by_cases e : nd w h b = true
    · have b1 := nd_bd d
      have b2 := nd_bd e
      rw [if_neg (show ¬ ((!nd w h b) = true) by simp [e]), if_pos (show (nd w h a && nd w h b) = true by simp [d, e]), if_neg (show ¬ w = 0 by omega), tmod_of (by omega), tmod_of (by omega), tdiv_of (by omega), tdiv_of (by omega), wrap64_id (x := a / w) (by omega) (by omega), wrap64_id (x := b / w) (by omega) (by omega)]
      rw [spec_l02Abs_eq (by omega) (by omega), spec_l02Abs_eq (by omega) (by omega)]
      simp only [Option.bind_some]
      rw [wrap64_id (by unfold absd; split <;> split <;> omega) (by unfold absd; split <;> split <;> omega)]
    · rw [if_pos (show (!nd w h b) = true by simp [e]), if_neg (show ¬ (nd w h a && nd w h b) = true by simp [e])]
  · rw [if_neg d, if_pos trivial, if_neg (show ¬ (nd w h a && nd w h b) = true by simp [d])]

theorem laws_toGrid_eq (w h : Int) : laws_toGrid.f w h = some (w, h) := rfl

theorem FnExactDistance : laws_FnExactDistance.Pure := by
  intro w h a b _ _ _ _
  refine ⟨1, ?_⟩
  unfold laws_FnExactDistance.f
  simp [laws_toGrid_eq, spec_Distance_eq w h a b 1 (by omega), impl_Distance_eq w h a b 1 (by omega)]

end Go.Proofs.Ytohccnaellachaa.Pure
