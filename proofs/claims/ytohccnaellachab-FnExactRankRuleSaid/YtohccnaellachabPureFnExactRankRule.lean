/- What is proved: the statement FnExactRankRule, in its pure form, over numbers and lists: the program's and the reference's RankRule agree for all arguments (no conditions). -/
import Derived.Test.YtohccnaellachabX26
import Derived.Test.YtohccnaellachabModel
set_option linter.unusedVariables false
set_option linter.unusedSimpArgs false
namespace Go.Proofs.Ytohccnaellachab.Pure
open Go.RowKit Go.Proofs.Ytohccnaellachab.X Go.Proofs.Ytohccnaellachab.M Go.Proofs.YtohccnaellachabW.PrintWords Go.Proofs.YtohccnaellachabW.PrintLast
theorem rd_nat (l : List Int) (i : Nat) (h : i < l.length) : rd l (i : Int) = l[i] := by unfold rd; simp [h]
theorem drop_rd (l : List Int) (i : Nat) (h : i < l.length) : l.drop i = rd l (i : Int) :: l.drop (i + 1) := by
  rw [rd_nat l i h]; exact List.drop_eq_getElem_cons h
theorem w64s {i : Nat} (h : i ≤ 9223372036854775806) : wrap64 ((i : Int) + 1) = ((i + 1 : Nat) : Int) := by rw [wrap64_id (by omega) (by omega)]; omega
theorem w64p {i : Nat} (h : i ≤ 9223372036854775806) (h0 : 0 < i) : wrap64 ((i : Int) - 1) = ((i - 1 : Nat) : Int) := by rw [wrap64_id (by omega) (by omega)]; omega

theorem impl_inside_eq (a b c : Int) : impl_inside.f a b c = some (inR a b c) := by
  unfold impl_inside.f inR
  by_cases h : b ≤ a <;> simp [h]

theorem impl_GridOk_eq (w h : Int) : impl_GridOk.f w h = some (gok w h) := by
  unfold impl_GridOk.f gok
  simp only [impl_inside_eq, Option.bind_some]
  cases inR w 1 4 <;> rfl

theorem impl_NodeCount_eq (w h : Int) : impl_NodeCount.f w h = some (cnt w h) := by
  unfold impl_NodeCount.f
  simp only [impl_GridOk_eq, Option.bind_some]
  by_cases g : gok w h = true
  · have b := cnt_bd w h
    rw [if_pos g, cnt_ok g]
    rw [cnt_ok g] at b
    rw [wrap64_id (by omega) (by omega)]
  · rw [if_neg g, cnt_no (by simpa using g)]

theorem impl_isNode_eq (w h n : Int) : impl_isNode.f w h n = some (nd w h n) := by
  have b := cnt_bd w h
  unfold impl_isNode.f nd
  simp only [impl_NodeCount_eq, impl_inside_eq, Option.bind_some]
  rw [wrap64_id (by omega) (by omega)]

theorem impl_NodeAt_eq (w h x y : Int) : impl_NodeAt.f w h x y = some (natx w h x y) := by
  unfold impl_NodeAt.f natx
  simp only [impl_GridOk_eq, impl_inside_eq, Option.bind_some]
  by_cases g : gok w h = true
  · have b := gok_iff.1 g
    rw [if_pos g, wrap64_id (x := w - 1) (by omega) (by omega), wrap64_id (x := h - 1) (by omega) (by omega)]
    by_cases hx : inR x 0 (w - 1) = true
    · rw [if_pos hx]
      by_cases hy : inR y 0 (h - 1) = true
      · rw [if_pos hy, if_pos (by simp [g, hx, hy])]
        rw [inR_iff] at hx hy
        have e : wrap64 (y * w) = y * w := by rcases w4 g with rfl | rfl | rfl | rfl <;> exact wrap64_id (by omega) (by omega)
        have e2 : wrap64 (y * w + x) = y * w + x := by rcases w4 g with rfl | rfl | rfl | rfl <;> exact wrap64_id (by omega) (by omega)
        rw [e, e2]
      · rw [if_neg hy, if_neg (by simp [hy])]
    · rw [if_neg hx, if_neg (by simp [hx])]
  · rw [if_neg g, if_neg (by simp [g])]

theorem impl_ColumnOf_eq (w h n : Int) : impl_ColumnOf.f w h n = some (col w h n) := by
  unfold impl_ColumnOf.f col
  simp only [impl_isNode_eq, Option.bind_some]
  by_cases d : nd w h n = true
  · have b := nd_bd d
    rw [if_pos d, if_pos d, if_neg (by omega), tmod_of (by omega)]
  · rw [if_neg d, if_neg d]

theorem impl_RowOf_eq (w h n : Int) : impl_RowOf.f w h n = some (row w h n) := by
  unfold impl_RowOf.f row
  simp only [impl_isNode_eq, Option.bind_some]
  by_cases d : nd w h n = true
  · have b := nd_bd d
    rw [if_pos d, if_pos d, if_neg (by omega), tdiv_of (by omega), wrap64_id (by omega) (by omega)]
  · rw [if_neg d, if_neg d]

theorem impl_NextNode_eq (w h n p : Int) : impl_NextNode.f w h n p = some (nxt w h n p) := by
  unfold impl_NextNode.f nxt
  simp only [impl_isNode_eq, Option.bind_some]
  by_cases d : nd w h n = true
  · have b := nd_bd d
    rw [if_pos d, if_pos d, if_neg (by omega)]
    simp only [impl_NodeAt_eq, Option.bind_some, tmod_of (show 0 ≤ n by omega), tdiv_of (show 0 ≤ n by omega)]
    rw [wrap64_id (x := n / w) (by omega) (by omega), wrap64_id (x := n / w - 1) (by omega) (by omega), wrap64_id (x := n / w + 1) (by omega) (by omega), wrap64_id (x := n % w + 1) (by omega) (by omega), wrap64_id (x := n % w - 1) (by omega) (by omega)]
    repeat' split
    all_goals rfl
  · rw [if_neg d, if_neg d]

theorem impl_leads_eq (w h c : Int) : impl_leads.f w h c = some (leads w h c) := by
  have b := cnt_bd w h
  unfold impl_leads.f leads
  simp only [impl_NodeCount_eq, impl_inside_eq, Option.bind_some, impl_NextNode_eq]
  rw [wrap64_id (x := 4 * cnt w h) (by omega) (by omega), wrap64_id (by omega) (by omega)]
  by_cases r : inR c 0 (4 * cnt w h - 1) = true
  · have b := inR_iff.1 r
    rw [if_pos r, tdiv_of (by omega), wrap64_id (by omega) (by omega), tmod_of (by omega), r]
    rfl
  · rw [if_neg r]
    simp [r]

theorem spec_l01In_eq (a b c : Int) : spec_l01In.f a b c = some (inR a b c) := by
  unfold spec_l01In.f inR
  by_cases h : b ≤ a <;> simp [h]

theorem spec_GridOk_eq (w h : Int) : spec_GridOk.f w h = some (gok w h) := by
  unfold spec_GridOk.f gok
  simp only [spec_l01In_eq, Option.bind_some]
  cases inR w 1 4 <;> rfl

theorem spec_NodeCount_eq (w h : Int) : spec_NodeCount.f w h = some (cnt w h) := by
  unfold spec_NodeCount.f
  simp only [spec_GridOk_eq, Option.bind_some]
  by_cases g : gok w h = true
  · have b := cnt_bd w h
    rw [if_pos g, cnt_ok g]
    rw [cnt_ok g] at b
    rw [wrap64_id (by omega) (by omega)]
  · rw [if_neg g, cnt_no (by simpa using g)]

theorem spec_l02Has_eq (w h n : Int) : spec_l02Has.f w h n = some (nd w h n) := by
  have b := cnt_bd w h
  unfold spec_l02Has.f nd
  simp only [spec_NodeCount_eq, spec_l01In_eq, Option.bind_some]
  rw [wrap64_id (by omega) (by omega)]

theorem spec_NodeAt_eq (w h x y : Int) : spec_NodeAt.f w h x y = some (natx w h x y) := by
  unfold spec_NodeAt.f natx
  simp only [spec_GridOk_eq, spec_l01In_eq, Option.bind_some]
  by_cases g : gok w h = true
  · have b := gok_iff.1 g
    rw [if_pos g, wrap64_id (x := w - 1) (by omega) (by omega), wrap64_id (x := h - 1) (by omega) (by omega)]
    by_cases hx : inR x 0 (w - 1) = true
    · rw [if_pos hx]
      by_cases hy : inR y 0 (h - 1) = true
      · rw [if_pos hy, if_pos (by simp [g, hx, hy])]
        rw [inR_iff] at hx hy
        have e : wrap64 (y * w) = y * w := by rcases w4 g with rfl | rfl | rfl | rfl <;> exact wrap64_id (by omega) (by omega)
        have e2 : wrap64 (y * w + x) = y * w + x := by rcases w4 g with rfl | rfl | rfl | rfl <;> exact wrap64_id (by omega) (by omega)
        rw [e, e2]
      · rw [if_neg hy, if_neg (by simp [hy])]
    · rw [if_neg hx, if_neg (by simp [hx])]
  · rw [if_neg g, if_neg (by simp [g])]

theorem spec_NextNode_eq (w h n p : Int) : spec_NextNode.f w h n p = some (nxt w h n p) := by
  unfold spec_NextNode.f nxt
  simp only [spec_l02Has_eq, Option.bind_some]
  by_cases d : nd w h n = true
  · have b := nd_bd d
    rw [if_pos d, if_pos d, if_neg (by omega)]
    simp only [spec_NodeAt_eq, Option.bind_some, tmod_of (show 0 ≤ n by omega), tdiv_of (show 0 ≤ n by omega)]
    rw [wrap64_id (x := n / w) (by omega) (by omega), wrap64_id (x := n / w - 1) (by omega) (by omega), wrap64_id (x := n / w + 1) (by omega) (by omega), wrap64_id (x := n % w + 1) (by omega) (by omega), wrap64_id (x := n % w - 1) (by omega) (by omega)]
    repeat' split
    all_goals rfl
  · rw [if_neg d, if_neg d]

theorem spec_l03Leads_eq (w h c : Int) : spec_l03Leads.f w h c = some (leads w h c) := by
  have b := cnt_bd w h
  unfold spec_l03Leads.f leads
  simp only [spec_NodeCount_eq, spec_l01In_eq, Option.bind_some, spec_NextNode_eq]
  rw [wrap64_id (x := 4 * cnt w h) (by omega) (by omega), wrap64_id (by omega) (by omega)]
  by_cases r : inR c 0 (4 * cnt w h - 1) = true
  · have b := inR_iff.1 r
    rw [if_pos r, tdiv_of (by omega), wrap64_id (by omega) (by omega), tmod_of (by omega), r]
    rfl
  · rw [if_neg r]
    simp [r]

theorem laws_toGrid_eq (w h : Int) : laws_toGrid.f w h = some (w, h) := rfl

theorem impl_RankRule_eq (w h r c : Int) (k : Nat) (hk : 1 ≤ k) : impl_RankRule.f k w h r c = some (rank w h r c) := by
  obtain ⟨k, rfl⟩ : ∃ m, k = m + 1 := ⟨k - 1, by omega⟩
  unfold impl_RankRule.f rank
  simp only [impl_GridOk_eq, impl_ColumnOf_eq, impl_RowOf_eq, impl_leads_eq, Option.bind_some, impl_RankRule.j0]
  by_cases q : r = 1
  · by_cases l : leads w h c = true
    · have b := leads_iff.1 l
      have hd := (nxt_nd b.2).1
      have b2 := nd_bd hd
      have t1 : Int.tdiv c 4 = c / 4 := tdiv_of (by omega)
      have t2 : Int.tmod c 4 = c % 4 := tmod_of (by omega)
      have t3 : wrap64 (c / 4) = c / 4 := wrap64_id (by omega) (by omega)
      have g := nd_gok hd
      have u1 : col w h (c / 4) = c / 4 % w := by unfold col; rw [if_pos hd]
      have u2 : row w h (c / 4) = c / 4 / w := by unfold row; rw [if_pos hd]
      rw [if_pos g, if_pos q, if_neg (by simp [l]), if_pos (show (decide (r = 1) && leads w h c) = true by simp [q, l]), t1, t2, t3, u1, u2]
      rw [wrap64_id (x := w - 1) (by omega) (by omega), wrap64_id (x := w - 1 - c / 4 % w) (by omega) (by omega), wrap64_id (x := 10 + c / 4 / w) (by omega) (by omega), wrap64_id (x := 10 + h) (by omega) (by omega), wrap64_id (x := 10 + h - 1) (by omega) (by omega), wrap64_id (x := 10 + h - 1 - c / 4 / w) (by omega) (by omega)]
      repeat' split
      all_goals rfl
    · rw [if_neg (show ¬ (decide (r = 1) && leads w h c) = true by simp [l])]
      by_cases g : gok w h = true <;> simp [q, l, g]
  · rw [if_neg (show ¬ (decide (r = 1) && leads w h c) = true by simp [q])]
    by_cases g : gok w h = true <;> simp [q, g]

theorem spec_RankRule_eq (w h r c : Int) (k : Nat) (hk : 1 ≤ k) : spec_RankRule.f k w h r c = some (rank w h r c) := by
  obtain ⟨k, rfl⟩ : ∃ m, k = m + 1 := ⟨k - 1, by omega⟩
  unfold spec_RankRule.f rank
  simp only [spec_l03Leads_eq, Option.bind_some, spec_RankRule.j0]
  by_cases q : r = 1
  · by_cases l : leads w h c = true
    · have b := leads_iff.1 l
      have hd := (nxt_nd b.2).1
      have b2 := nd_bd hd
      have t1 : Int.tdiv c 4 = c / 4 := tdiv_of (by omega)
      have t2 : Int.tmod c 4 = c % 4 := tmod_of (by omega)
      have t3 : wrap64 (c / 4) = c / 4 := wrap64_id (by omega) (by omega)
      skip
      have u1 : Int.tmod (c / 4) w = c / 4 % w := tmod_of (by omega)
      have u2 : Int.tdiv (c / 4) w = c / 4 / w := tdiv_of (by omega)
      rw [if_pos q, if_neg (by simp [l]), if_neg (show ¬ w = 0 by omega), if_pos (show (decide (r = 1) && leads w h c) = true by simp [q, l]), t1, t2, t3, u1, u2, wrap64_id (x := c / 4 / w) (by omega) (by omega)]
      rw [wrap64_id (x := w - 1) (by omega) (by omega), wrap64_id (x := w - 1 - c / 4 % w) (by omega) (by omega), wrap64_id (x := 10 + c / 4 / w) (by omega) (by omega), wrap64_id (x := 10 + h) (by omega) (by omega), wrap64_id (x := 10 + h - 1) (by omega) (by omega), wrap64_id (x := 10 + h - 1 - c / 4 / w) (by omega) (by omega)]
      repeat' split
      all_goals rfl
    · rw [if_neg (show ¬ (decide (r = 1) && leads w h c) = true by simp [l])]
      by_cases g : gok w h = true <;> simp [q, l, g]
  · rw [if_neg (show ¬ (decide (r = 1) && leads w h c) = true by simp [q])]
    by_cases g : gok w h = true <;> simp [q, g]

theorem FnExactRankRule : laws_FnExactRankRule.Pure := by
  intro w h r c _ _ _ _
  refine ⟨1, ?_⟩
  unfold laws_FnExactRankRule.f
  simp [laws_toGrid_eq, spec_RankRule_eq w h r c 1 (by omega), impl_RankRule_eq w h r c 1 (by omega)]

end Go.Proofs.Ytohccnaellachab.Pure
