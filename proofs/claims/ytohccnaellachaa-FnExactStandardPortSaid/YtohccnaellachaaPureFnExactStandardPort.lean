/- What is proved: the statement FnExactStandardPort, in its pure form, over numbers and lists: the program's and the reference's StandardPort agree for all arguments (no conditions). -/
import Derived.Test.YtohccnaellachaaX18
import Derived.Test.YtohccnaellachaaModel
set_option linter.unusedVariables false
set_option linter.unusedSimpArgs false
namespace Go.Proofs.Ytohccnaellachaa.Pure
open Go.RowKit Go.Proofs.Ytohccnaellachaa.X Go.Proofs.Ytohccnaellachaa.M Go.Proofs.YtohccnaellachaaW.PrintWords Go.Proofs.YtohccnaellachaaW.PrintLast
theorem rd_nat (l : List Int) (i : Nat) (h : i < l.length) : rd l (i : Int) = l[i] := by unfold rd; simp [h]
theorem drop_rd (l : List Int) (i : Nat) (h : i < l.length) : l.drop i = rd l (i : Int) :: l.drop (i + 1) := by
  rw [rd_nat l i h]; exact List.drop_eq_getElem_cons h
theorem w64s {i : Nat} (h : i ≤ 9223372036854775806) : wrap64 ((i : Int) + 1) = ((i + 1 : Nat) : Int) := by rw [wrap64_id (by omega) (by omega)]; omega
theorem w64p {i : Nat} (h : i ≤ 9223372036854775806) (h0 : 0 < i) : wrap64 ((i : Int) - 1) = ((i - 1 : Nat) : Int) := by rw [wrap64_id (by omega) (by omega)]; omega

theorem impl_inside_eq (a b c : Int) : impl_inside.f a b c = some (inR a b c) := by
  unfold impl_inside.f inR
  by_cases h : b ≤ a <;> simp [h]

theorem impl_GridOk_eq (w h : Int) : impl_GridOk.f w h = some (gok w h) := by
  unfold impl_GridOk.f gok
  simp only [impl_inside_eq, Option.bind_some]
  cases inR w 1 4 <;> rfl

theorem impl_NodeCount_eq (w h : Int) : impl_NodeCount.f w h = some (cnt w h) := by
  unfold impl_NodeCount.f
  simp only [impl_GridOk_eq, Option.bind_some]
  by_cases g : gok w h = true
  · have b := cnt_bd w h
    rw [if_pos g, cnt_ok g]
    rw [cnt_ok g] at b
    rw [wrap64_id (by omega) (by omega)]
  · rw [if_neg g, cnt_no (by simpa using g)]

theorem impl_isNode_eq (w h n : Int) : impl_isNode.f w h n = some (nd w h n) := by
  have b := cnt_bd w h
  unfold impl_isNode.f nd
  simp only [impl_NodeCount_eq, impl_inside_eq, Option.bind_some]
  rw [wrap64_id (by omega) (by omega)]

theorem spec_l01In_eq (a b c : Int) : spec_l01In.f a b c = some (inR a b c) := by
  unfold spec_l01In.f inR
  by_cases h : b ≤ a <;> simp [h]

theorem spec_GridOk_eq (w h : Int) : spec_GridOk.f w h = some (gok w h) := by
  unfold spec_GridOk.f gok
  simp only [spec_l01In_eq, Option.bind_some]
  cases inR w 1 4 <;> rfl

theorem spec_NodeCount_eq (w h : Int) : spec_NodeCount.f w h = some (cnt w h) := by
  unfold spec_NodeCount.f
  simp only [spec_GridOk_eq, Option.bind_some]
  by_cases g : gok w h = true
  · have b := cnt_bd w h
    rw [if_pos g, cnt_ok g]
    rw [cnt_ok g] at b
    rw [wrap64_id (by omega) (by omega)]
  · rw [if_neg g, cnt_no (by simpa using g)]

theorem spec_l02Has_eq (w h n : Int) : spec_l02Has.f w h n = some (nd w h n) := by
  have b := cnt_bd w h
  unfold spec_l02Has.f nd
  simp only [spec_NodeCount_eq, spec_l01In_eq, Option.bind_some]
  rw [wrap64_id (by omega) (by omega)]

theorem laws_toGrid_eq (w h : Int) : laws_toGrid.f w h = some (w, h) := rfl

theorem spec_l05Port_eq (w h r n t : Int) (k : Nat) (hk : 3 ≤ k) (d : nd w h n = true) (e : nd w h t = true) (hr : inR r 1 4 = true) : spec_l05Port.f k w h r n t = some (stdP w r n t) := by
  obtain ⟨k, rfl⟩ : ∃ m, k = m + 1 + 1 := ⟨k - 2, by omega⟩
  have b1 := nd_bd d
  have b2 := nd_bd e
  have ap := apart d e
  rw [inR_iff] at hr
  unfold spec_l05Port.f stdP
  rw [if_neg (show ¬ w = 0 by omega), tmod_of (show 0 ≤ n by omega), tmod_of (show 0 ≤ t by omega), tmod_of (show 0 ≤ t by omega), tdiv_of (show 0 ≤ n by omega), tdiv_of (show 0 ≤ t by omega), wrap64_id (x := n / w) (by omega) (by omega), wrap64_id (x := t / w) (by omega) (by omega), wrap64_id (x := 1 + t % 2) (by omega) (by omega)]
  have key : ∀ r x y u v : Int, 1 ≤ r → r ≤ 3 → spec_l05Port.j0 (k + 1 + 1) r x y u v = some (stdQ r x y u v) := by
    intro r x y u v h1 h2
    simp only [spec_l05Port.j0, spec_l05Port.j1, spec_l05Column.f, spec_l05Row.f, stdQ]
    have c3 : r = 1 ∨ r = 2 ∨ r = 3 := by omega
    by_cases a1 : u < x <;> by_cases a2 : v < y <;> by_cases a3 : y = v <;> by_cases a4 : x = u <;> rcases c3 with rfl | rfl | rfl <;> simp [a1, a2, a3, a4]
  by_cases c : n = t
  · rw [if_pos c, if_pos c]
  · rw [if_neg c, if_neg c]
    by_cases q : r = 4
    · rw [if_pos q, if_pos q]; exact key _ _ _ _ _ (by omega) (by omega)
    · rw [if_neg q, if_neg q]; exact key _ _ _ _ _ (by omega) (by omega)
theorem spec_StandardPort_eq (w h r n t : Int) (k : Nat) (hk : 3 ≤ k) : spec_StandardPort.f k w h r n t = some (std w h r n t) := by
  unfold spec_StandardPort.f std
  simp only [spec_l02Has_eq, spec_l01In_eq, Option.bind_some]
  by_cases d : nd w h n = true
  · by_cases e : nd w h t = true
    · by_cases hr : inR r 1 4 = true
      · rw [if_pos d, if_pos e, if_pos hr, spec_l05Port_eq w h r n t k hk d e hr]
        simp [d, e, hr]
      · simp [d, e, hr]
    · simp [d, e]
  · simp [d]

theorem impl_StandardPort_eq (w h r n t : Int) (k : Nat) (hk : 3 ≤ k) : impl_StandardPort.f k w h r n t = some (std w h r n t) := by
  obtain ⟨k, rfl⟩ : ∃ m, k = m + 1 + 1 := ⟨k - 2, by omega⟩
  unfold impl_StandardPort.f std
  simp only [impl_isNode_eq, impl_inside_eq, Option.bind_some]
  by_cases d : nd w h n = true
  · by_cases e : nd w h t = true
    · by_cases hr : inR r 1 4 = true
      · have b1 := nd_bd d
        have b2 := nd_bd e
        have ap := apart d e
        have hr' := inR_iff.1 hr
        rw [if_pos d, if_pos e, if_pos (show (nd w h n && nd w h t && inR r 1 4) = true by simp [d, e, hr])]
        simp only [impl_StandardPort.j0]
        rw [if_neg (show ¬ (!inR r 1 4) = true by simp [hr]), tmod_of (show 0 ≤ t by omega), wrap64_id (x := 1 + t % 2) (by omega) (by omega)]
        have key : ∀ r : Int, 1 ≤ r → r ≤ 3 → impl_StandardPort.j1 (k + 1) r n t w h = some (if n = t then 4 else stdQ r (n % w) (n / w) (t % w) (t / w)) := by
          intro r h1 h2
          simp only [impl_StandardPort.j1]
          rw [if_neg (show ¬ w = 0 by omega), tmod_of (show 0 ≤ n by omega), tmod_of (show 0 ≤ t by omega), tdiv_of (show 0 ≤ n by omega), tdiv_of (show 0 ≤ t by omega), wrap64_id (x := n / w) (by omega) (by omega), wrap64_id (x := t / w) (by omega) (by omega)]
          have c3 : r = 1 ∨ r = 2 ∨ r = 3 := by omega
          generalize n % w = x at *
          generalize n / w = y at *
          generalize t % w = u at *
          generalize t / w = v at *
          simp only [impl_along.f, impl_across.f, stdQ]
          by_cases c : n = t
          · by_cases a1 : x < u <;> by_cases a2 : u < x <;> by_cases a3 : y < v <;> by_cases a4 : v < y <;> simp [a1, a2, a3, a4, c]
          · have ap := ap c
            rw [if_neg c]
            have e1 : (x = u) ↔ (¬ x < u ∧ ¬ u < x) := by omega
            have e2 : (y = v) ↔ (¬ y < v ∧ ¬ v < y) := by omega
            by_cases a1 : x < u <;> by_cases a2 : u < x <;> by_cases a3 : y < v <;> by_cases a4 : v < y <;> first | (exfalso; omega) | (rcases c3 with rfl | rfl | rfl <;> simp [c, a1, a2, a3, a4, e1, e2])
        unfold stdP
        by_cases q : r = 4
        · rw [if_pos q, key _ (by omega) (by omega), if_pos q]
        · rw [if_neg q, key _ (by omega) (by omega), if_neg q]
      · have hr' : inR r 1 4 = false := by simpa using hr
        simp [d, e, hr', impl_StandardPort.j0]
    · have e' : nd w h t = false := by simpa using e
      simp [d, e', impl_StandardPort.j0]
  · have d' : nd w h n = false := by simpa using d
    simp [d', impl_StandardPort.j0]

theorem FnExactStandardPort : laws_FnExactStandardPort.Pure := by
  intro w h r n t _ _ _ _ _
  refine ⟨3, ?_⟩
  unfold laws_FnExactStandardPort.f
  simp [laws_toGrid_eq, spec_StandardPort_eq w h r n t 3 (by omega), impl_StandardPort_eq w h r n t 3 (by omega)]

end Go.Proofs.Ytohccnaellachaa.Pure
