/- What is proved: the statement FnExactWalkTable, in its pure form, over numbers and lists: the program's and the reference's WalkTable agree for all arguments, the arguments stay, and the result is the caller's own (no conditions). -/
import Derived.Test.YtiehmmannfambaaXW5
import Derived.Test.YtiehmmannfambaaModel
set_option linter.unusedVariables false
set_option linter.unusedSimpArgs false
namespace Go.Proofs.Ytiehmmannfambaa.Pure
open Go.RowKit Go.Proofs.Ytiehmmannfambaa.XW Go.Proofs.Ytiehmmannfambaa.M Go.Proofs.YtiehmmannfambaaW.PrintWords Go.Proofs.YtiehmmannfambaaW.PrintLast
theorem rd_nat (l : List Int) (i : Nat) (h : i < l.length) : rd l (i : Int) = l[i] := by unfold rd; simp [h]
theorem drop_rd (l : List Int) (i : Nat) (h : i < l.length) : l.drop i = rd l (i : Int) :: l.drop (i + 1) := by
  rw [rd_nat l i h]; exact List.drop_eq_getElem_cons h
theorem w64s {i : Nat} (h : i ≤ 9223372036854775806) : wrap64 ((i : Int) + 1) = ((i + 1 : Nat) : Int) := by rw [wrap64_id (by omega) (by omega)]; omega
theorem w64p {i : Nat} (h : i ≤ 9223372036854775806) (h0 : 0 < i) : wrap64 ((i : Int) - 1) = ((i - 1 : Nat) : Int) := by rw [wrap64_id (by omega) (by omega)]; omega

theorem impl_inside_eq (a b c : Int) : impl_inside.f a b c = some (inR a b c) := by
  unfold impl_inside.f inR
  by_cases h : b ≤ a <;> simp [h]

theorem impl_GridOk_eq (w h : Int) : impl_GridOk.f w h = some (gok w h) := by
  unfold impl_GridOk.f gok
  simp only [impl_inside_eq, Option.bind_some]
  cases inR w 1 4 <;> rfl

theorem impl_NodeCount_eq (w h : Int) : impl_NodeCount.f w h = some (cnt w h) := by
  unfold impl_NodeCount.f
  simp only [impl_GridOk_eq, Option.bind_some]
  by_cases g : gok w h = true
  · have b := cnt_bd w h
    rw [if_pos g, cnt_ok g]
    rw [cnt_ok g] at b
    rw [wrap64_id (by omega) (by omega)]
  · rw [if_neg g, cnt_no (by simpa using g)]

theorem impl_isNode_eq (w h n : Int) : impl_isNode.f w h n = some (nd w h n) := by
  have b := cnt_bd w h
  unfold impl_isNode.f nd
  simp only [impl_NodeCount_eq, impl_inside_eq, Option.bind_some]
  rw [wrap64_id (by omega) (by omega)]

theorem impl_NodeAt_eq (w h x y : Int) : impl_NodeAt.f w h x y = some (natx w h x y) := by
  unfold impl_NodeAt.f natx
  simp only [impl_GridOk_eq, impl_inside_eq, Option.bind_some]
  by_cases g : gok w h = true
  · have b := gok_iff.1 g
    rw [if_pos g, wrap64_id (x := w - 1) (by omega) (by omega), wrap64_id (x := h - 1) (by omega) (by omega)]
    by_cases hx : inR x 0 (w - 1) = true
    · rw [if_pos hx]
      by_cases hy : inR y 0 (h - 1) = true
      · rw [if_pos hy, if_pos (by simp [g, hx, hy])]
        rw [inR_iff] at hx hy
        have e : wrap64 (y * w) = y * w := by rcases w4 g with rfl | rfl | rfl | rfl <;> exact wrap64_id (by omega) (by omega)
        have e2 : wrap64 (y * w + x) = y * w + x := by rcases w4 g with rfl | rfl | rfl | rfl <;> exact wrap64_id (by omega) (by omega)
        rw [e, e2]
      · rw [if_neg hy, if_neg (by simp [hy])]
    · rw [if_neg hx, if_neg (by simp [hx])]
  · rw [if_neg g, if_neg (by simp [g])]

theorem impl_NextNode_eq (w h n p : Int) : impl_NextNode.f w h n p = some (nxt w h n p) := by
  unfold impl_NextNode.f nxt
  simp only [impl_isNode_eq, Option.bind_some]
  by_cases d : nd w h n = true
  · have b := nd_bd d
    rw [if_pos d, if_pos d, if_neg (by omega)]
    simp only [impl_NodeAt_eq, Option.bind_some, tmod_of (show 0 ≤ n by omega), tdiv_of (show 0 ≤ n by omega)]
    rw [wrap64_id (x := n / w) (by omega) (by omega), wrap64_id (x := n / w - 1) (by omega) (by omega), wrap64_id (x := n / w + 1) (by omega) (by omega), wrap64_id (x := n % w + 1) (by omega) (by omega), wrap64_id (x := n % w - 1) (by omega) (by omega)]
    repeat' split
    all_goals rfl
  · rw [if_neg d, if_neg d]

theorem impl_leads_eq (w h c : Int) : impl_leads.f w h c = some (leads w h c) := by
  have b := cnt_bd w h
  unfold impl_leads.f leads
  simp only [impl_NodeCount_eq, impl_inside_eq, Option.bind_some, impl_NextNode_eq]
  rw [wrap64_id (x := 4 * cnt w h) (by omega) (by omega), wrap64_id (by omega) (by omega)]
  by_cases r : inR c 0 (4 * cnt w h - 1) = true
  · have b := inR_iff.1 r
    rw [if_pos r, tdiv_of (by omega), wrap64_id (by omega) (by omega), tmod_of (by omega), r]
    rfl
  · rw [if_neg r]
    simp [r]

theorem spec_l01In_eq (a b c : Int) : spec_l01In.f a b c = some (inR a b c) := by
  unfold spec_l01In.f inR
  by_cases h : b ≤ a <;> simp [h]

theorem spec_GridOk_eq (w h : Int) : spec_GridOk.f w h = some (gok w h) := by
  unfold spec_GridOk.f gok
  simp only [spec_l01In_eq, Option.bind_some]
  cases inR w 1 4 <;> rfl

theorem spec_NodeCount_eq (w h : Int) : spec_NodeCount.f w h = some (cnt w h) := by
  unfold spec_NodeCount.f
  simp only [spec_GridOk_eq, Option.bind_some]
  by_cases g : gok w h = true
  · have b := cnt_bd w h
    rw [if_pos g, cnt_ok g]
    rw [cnt_ok g] at b
    rw [wrap64_id (by omega) (by omega)]
  · rw [if_neg g, cnt_no (by simpa using g)]

theorem spec_l02Has_eq (w h n : Int) : spec_l02Has.f w h n = some (nd w h n) := by
  have b := cnt_bd w h
  unfold spec_l02Has.f nd
  simp only [spec_NodeCount_eq, spec_l01In_eq, Option.bind_some]
  rw [wrap64_id (by omega) (by omega)]

theorem spec_NodeAt_eq (w h x y : Int) : spec_NodeAt.f w h x y = some (natx w h x y) := by
  unfold spec_NodeAt.f natx
  simp only [spec_GridOk_eq, spec_l01In_eq, Option.bind_some]
  by_cases g : gok w h = true
  · have b := gok_iff.1 g
    rw [if_pos g, wrap64_id (x := w - 1) (by omega) (by omega), wrap64_id (x := h - 1) (by omega) (by omega)]
    by_cases hx : inR x 0 (w - 1) = true
    · rw [if_pos hx]
      by_cases hy : inR y 0 (h - 1) = true
      · rw [if_pos hy, if_pos (by simp [g, hx, hy])]
        rw [inR_iff] at hx hy
        have e : wrap64 (y * w) = y * w := by rcases w4 g with rfl | rfl | rfl | rfl <;> exact wrap64_id (by omega) (by omega)
        have e2 : wrap64 (y * w + x) = y * w + x := by rcases w4 g with rfl | rfl | rfl | rfl <;> exact wrap64_id (by omega) (by omega)
        rw [e, e2]
      · rw [if_neg hy, if_neg (by simp [hy])]
    · rw [if_neg hx, if_neg (by simp [hx])]
  · rw [if_neg g, if_neg (by simp [g])]

theorem spec_NextNode_eq (w h n p : Int) : spec_NextNode.f w h n p = some (nxt w h n p) := by
  unfold spec_NextNode.f nxt
  simp only [spec_l02Has_eq, Option.bind_some]
  by_cases d : nd w h n = true
  · have b := nd_bd d
    rw [if_pos d, if_pos d, if_neg (by omega)]
    simp only [spec_NodeAt_eq, Option.bind_some, tmod_of (show 0 ≤ n by omega), tdiv_of (show 0 ≤ n by omega)]
    rw [wrap64_id (x := n / w) (by omega) (by omega), wrap64_id (x := n / w - 1) (by omega) (by omega), wrap64_id (x := n / w + 1) (by omega) (by omega), wrap64_id (x := n % w + 1) (by omega) (by omega), wrap64_id (x := n % w - 1) (by omega) (by omega)]
    repeat' split
    all_goals rfl
  · rw [if_neg d, if_neg d]

theorem spec_l03Leads_eq (w h c : Int) : spec_l03Leads.f w h c = some (leads w h c) := by
  have b := cnt_bd w h
  unfold spec_l03Leads.f leads
  simp only [spec_NodeCount_eq, spec_l01In_eq, Option.bind_some, spec_NextNode_eq]
  rw [wrap64_id (x := 4 * cnt w h) (by omega) (by omega), wrap64_id (by omega) (by omega)]
  by_cases r : inR c 0 (4 * cnt w h - 1) = true
  · have b := inR_iff.1 r
    rw [if_pos r, tdiv_of (by omega), wrap64_id (by omega) (by omega), tmod_of (by omega), r]
    rfl
  · rw [if_neg r]
    simp [r]

theorem laws_toGrid_eq (w h : Int) : laws_toGrid.f w h = some (w, h) := rfl

theorem toIntS_loop (x0 : List Int) (hn : x0.length ≤ 9223372036854775806) : ∀ (d i k : Nat) (x3 : List Int), i + d = x0.length → d < k → x3.length = x0.length → (∀ j, j < i → x3[j]? = x0[j]?) → laws_toIntS.l0 k x0 x3 (i : Int) = some x0 := by
  intro d
  induction d with
  | zero =>
    intro i k x3 hi hk hl hx
    obtain ⟨k, rfl⟩ : ∃ m, k = m + 1 := ⟨k - 1, by omega⟩
    simp only [laws_toIntS.l0]
    rw [if_neg (by omega)]
    congr 1
    apply List.ext_getElem?
    intro j
    by_cases hj : j < x0.length
    · exact hx j (by omega)
    · rw [List.getElem?_eq_none (by omega), List.getElem?_eq_none (by omega)]
  | succ d ih =>
    intro i k x3 hi hk hl hx
    obtain ⟨k, rfl⟩ : ∃ m, k = m + 1 := ⟨k - 1, by omega⟩
    simp only [laws_toIntS.l0]
    rw [if_pos (by omega), if_pos (by omega), if_pos (by omega), w64s (by omega)]
    refine ih (i + 1) k _ (by omega) (by omega) (by simpa using hl) fun j hj => ?_
    have e : ((i : Int)).toNat = i := by simp
    rw [e, List.getElem?_set]
    by_cases c : i = j
    · subst c; rw [if_pos rfl, if_pos (by omega), rd_nat _ _ (by omega), List.getElem?_eq_getElem (by omega)]
    · rw [if_neg c]; exact hx j (by omega)
theorem toIntS_eq (l : List Int) (k : Nat) (hl : l.length ≤ 1048576) (hk : 1048577 < k) : laws_toIntS.f k l = some l := by
  unfold laws_toIntS.f
  rw [if_pos (by omega), if_pos (by simp; omega)]
  exact toIntS_loop l (by omega) l.length 0 k _ (by omega) (by omega) (by simp) (by simp)

theorem eqIntS_loop (a b : List Int) (hl : a.length = b.length) (hn : a.length ≤ 9223372036854775806) : ∀ (d i k : Nat), i + d = a.length → d < k → laws_eqIntS.l0 k a b (i : Int) = some (decide (a.drop i = b.drop i)) := by
  intro d
  induction d with
  | zero =>
    intro i k hi hk
    obtain ⟨k, rfl⟩ : ∃ m, k = m + 1 := ⟨k - 1, by omega⟩
    simp only [laws_eqIntS.l0]
    rw [if_neg (by omega), List.drop_eq_nil_of_le (by omega), List.drop_eq_nil_of_le (by omega)]
    simp
  | succ d ih =>
    intro i k hi hk
    obtain ⟨k, rfl⟩ : ∃ m, k = m + 1 := ⟨k - 1, by omega⟩
    simp only [laws_eqIntS.l0]
    rw [if_pos (by omega), if_pos (by omega), if_pos (by omega), drop_rd a i (by omega), drop_rd b i (by omega)]
    by_cases c : rd a (i : Int) = rd b (i : Int)
    · rw [if_pos c, w64s (by omega), ih (i + 1) k (by omega) (by omega)]
      simp [c]
    · rw [if_neg c]; simp [c]
theorem eqIntS_eq (a b : List Int) (k : Nat) (ha : a.length ≤ 1048576) (hk : 1048577 < k) : laws_eqIntS.f k a b = some (decide (a = b)) := by
  unfold laws_eqIntS.f
  by_cases c : (a.length : Int) = (b.length : Int)
  · rw [if_pos c]
    have h := eqIntS_loop a b (by omega) (by omega) a.length 0 k (by omega) (by omega)
    simpa using h
  · rw [if_neg c]
    have : a ≠ b := fun e => c (by rw [e])
    simp [this]
theorem eqIntS_self (a : List Int) (k : Nat) (ha : a.length ≤ 1048576) (hk : 1048577 < k) : laws_eqIntS.f k a a = some true := by rw [eqIntS_eq a a k ha hk]; simp

theorem markIntS_loop (n m0 : Nat) (hn : n + m0 ≤ 4000000000) : ∀ (d i k : Nat) (x : List Int), i + d = n → d < k → x.length = n → (∀ j, j < i → x[j]? = some ((m0 + j : Nat) : Int)) → laws_markIntS.l0 k x ((m0 + i : Nat) : Int) (i : Int) = some (((m0 + n : Nat) : Int), (List.range n).map fun j => ((m0 + j : Nat) : Int)) := by
  intro d
  induction d with
  | zero =>
    intro i k x hi hk hl hx
    obtain ⟨k, rfl⟩ : ∃ m, k = m + 1 := ⟨k - 1, by omega⟩
    simp only [laws_markIntS.l0]
    rw [if_neg (by omega)]
    have e : x = (List.range n).map fun j => ((m0 + j : Nat) : Int) := by
      apply List.ext_getElem?
      intro j
      by_cases hj : j < n
      · rw [hx j (by omega)]; simp [hj]
      · rw [List.getElem?_eq_none (by omega), List.getElem?_eq_none (by simp; omega)]
    obtain rfl : i = n := by omega
    rw [← e]
  | succ d ih =>
    intro i k x hi hk hl hx
    obtain ⟨k, rfl⟩ : ∃ m, k = m + 1 := ⟨k - 1, by omega⟩
    simp only [laws_markIntS.l0]
    rw [if_pos (by omega), if_pos (by omega), w64s (by omega), w64s (by omega)]
    have e2 : m0 + i + 1 = m0 + (i + 1) := by omega
    rw [e2]
    refine ih (i + 1) k _ (by omega) (by omega) (by simpa using hl) fun j hj => ?_
    have e : ((i : Int)).toNat = i := by simp
    rw [e, List.getElem?_set]
    by_cases c : i = j
    · subst c; rw [if_pos rfl, if_pos (by omega)]
    · rw [if_neg c]; exact hx j (by omega)
theorem markIntS_eq (l : List Int) (m0 k : Nat) (hl : l.length + m0 ≤ 4000000000) (hk : l.length < k) : laws_markIntS.f k l (m0 : Int) = some (((m0 + l.length : Nat) : Int), (List.range l.length).map fun j => ((m0 + j : Nat) : Int)) := by
  unfold laws_markIntS.f
  have h := markIntS_loop l.length m0 (by omega) l.length 0 k l (by omega) (by omega) rfl (by simp)
  simpa using h

theorem heldIntS_loop (n m0 : Nat) (hn : n + m0 ≤ 4000000000) : ∀ (d i k : Nat), i + d = n → d < k → laws_heldIntS.l0 k ((List.range n).map fun j => ((m0 + j : Nat) : Int)) ((m0 + i : Nat) : Int) (i : Int) = some ((m0 + n : Nat) : Int) := by
  intro d
  induction d with
  | zero =>
    intro i k hi hk
    obtain ⟨k, rfl⟩ : ∃ m, k = m + 1 := ⟨k - 1, by omega⟩
    simp only [laws_heldIntS.l0]
    rw [if_neg (by simp; omega)]
    obtain rfl : i = n := by omega
    rfl
  | succ d ih =>
    intro i k hi hk
    obtain ⟨k, rfl⟩ : ∃ m, k = m + 1 := ⟨k - 1, by omega⟩
    simp only [laws_heldIntS.l0]
    rw [if_pos (by simp; omega), if_pos (by omega), if_pos (by rw [rd_nat _ _ (by simp; omega)]; simp), w64s (by omega), w64s (by omega)]
    have e2 : m0 + i + 1 = m0 + (i + 1) := by omega
    rw [e2]
    exact ih (i + 1) k (by omega) (by omega)
theorem heldIntS_eq (n m0 k : Nat) (hl : n + m0 ≤ 4000000000) (hk : n < k) : laws_heldIntS.f k ((List.range n).map fun j => ((m0 + j : Nat) : Int)) (m0 : Int) = some ((m0 + n : Nat) : Int) := by
  unfold laws_heldIntS.f
  have h := heldIntS_loop n m0 (by omega) n 0 k (by omega) (by omega)
  simpa using h

theorem mark_held (l : List Int) (k : Nat) (hl : l.length ≤ 1048576) (hk : 1048577 < k) : ∃ r, laws_markIntS.f k l 1 = some (1 + (l.length : Int), r) ∧ laws_heldIntS.f k r 1 = some (1 + (l.length : Int)) := by
  refine ⟨_, ?_, heldIntS_eq l.length 1 k (by omega) (by omega) |>.trans ?_⟩
  · have h := markIntS_eq l 1 k (by omega) (by omega)
    rw [show ((1 : Nat) : Int) = 1 from rfl] at h
    rw [h]
    simp
  · simp
theorem mark_any (l : List Int) (m k : Nat) (hl : l.length ≤ 1048576) (hm : m ≤ 100000000) (hk : 1048577 < k) : ∃ r, laws_markIntS.f k l (m : Int) = some (((m + l.length : Nat) : Int), r) := ⟨_, markIntS_eq l m k (by omega) (by omega)⟩

theorem szIntS_eq (l : List Int) (a : Int) (h : 0 ≤ a ∧ a ≤ 1048576) (hl : l.length ≤ maxLen) : laws_szIntS.f l a = some (if (l.length : Int) ≤ a then a - l.length else -1) := by
  unfold maxLen at hl
  unfold laws_szIntS.f
  rw [wrap64_id (by omega) (by omega)]
  by_cases c : (l.length : Int) ≤ a
  · rw [if_neg (by omega), if_pos c]
  · rw [if_pos (by omega), if_neg c]

theorem szMesh_eq (w h : Int) (l : List Int) (a : Int) (ha : 0 ≤ a ∧ a ≤ 1048576) (hl : l.length ≤ maxLen) : laws_szMesh.f w h l a = some (if (l.length : Int) ≤ a then a - l.length else -1) := by
  unfold laws_szMesh.f
  rw [szIntS_eq l a ha hl]
  simp only [Option.bind_some]
  by_cases c : (l.length : Int) ≤ a
  · rw [if_pos c, if_neg (by omega)]
  · rw [if_neg c, if_pos (by omega)]

theorem szTable_eq (l : List Int) (a : Int) (ha : 0 ≤ a ∧ a ≤ 1048576) (hl : l.length ≤ maxLen) : laws_szTable.f l a = some (if (l.length : Int) ≤ a then a - l.length else -1) := by
  unfold laws_szTable.f
  rw [szIntS_eq l a ha hl]
  simp only [Option.bind_some]
  by_cases c : (l.length : Int) ≤ a
  · rw [if_pos c, if_neg (by omega)]
  · rw [if_neg c, if_pos (by omega)]

theorem toMesh_eq (w h : Int) (l : List Int) (k : Nat) (hl : l.length ≤ 1048576) (hk : 1048577 < k) : laws_toMesh.f k w h l = some (w, h, l) := by
  unfold laws_toMesh.f
  rw [laws_toGrid_eq, toIntS_eq l k hl hk]
  rfl

theorem toTable_eq (l : List Int) (k : Nat) (hl : l.length ≤ 1048576) (hk : 1048577 < k) : laws_toTable.f k l = some l := by
  unfold laws_toTable.f
  rw [toIntS_eq l k hl hk]
  rfl

theorem eqMesh_self (w h : Int) (l : List Int) (k : Nat) (hl : l.length ≤ 1048576) (hk : 1048577 < k) : laws_eqMesh.f k w h l w h l = some true := by
  unfold laws_eqMesh.f laws_eqGrid.f
  rw [eqIntS_self l k hl hk]
  simp

theorem eqTable_eq (a b : List Int) (k : Nat) (hl : a.length ≤ 1048576) (hk : 1048577 < k) : laws_eqTable.f k a b = some (decide (a = b)) := by
  unfold laws_eqTable.f
  rw [eqIntS_eq a b k hl hk]
  by_cases c : a = b <;> simp [c]
theorem eqTable_self (l : List Int) (k : Nat) (hl : l.length ≤ 1048576) (hk : 1048577 < k) : laws_eqTable.f k l l = some true := by rw [eqTable_eq l l k hl hk]; simp

theorem impl_MeshOk_loop (w h : Int) (l : List Int) (hn : l.length ≤ 9223372036854775806) : ∀ (d i k : Nat), i + d = l.length → d < k → impl_MeshOk.l0 k l (l.length : Int) (i : Int) w h l = some (brOk w h (if i = 0 then none else some (rd l ((i - 1 : Nat) : Int))) (l.drop i) && gok w h) := by
  intro d
  induction d with
  | zero =>
    intro i k hi hk
    obtain ⟨k, rfl⟩ : ∃ m, k = m + 1 := ⟨k - 1, by omega⟩
    simp only [impl_MeshOk.l0]
    rw [if_neg (by omega), impl_GridOk_eq, List.drop_eq_nil_of_le (by omega)]
    simp [brOk]
  | succ d ih =>
    intro i k hi hk
    obtain ⟨k, rfl⟩ : ∃ m, k = m + 1 := ⟨k - 1, by omega⟩
    simp only [impl_MeshOk.l0]
    rw [if_pos (by omega), if_pos (by omega), if_pos (by omega), impl_leads_eq, drop_rd l i (by omega)]
    simp only [Option.bind_some]
    by_cases c : leads w h (rd l (i : Int)) = true
    · rw [if_pos c]
      have e := ih (i + 1) k (by omega) (by omega)
      rw [if_neg (by omega), show i + 1 - 1 = i from by omega] at e
      by_cases z : i = 0
      · subst z
        rw [if_neg (by simp), w64s (by omega), e, if_pos rfl]
        simp only [brOk, c, Bool.true_and]
      · rw [if_pos (by omega), w64p (by omega) (by omega), if_pos (by omega), if_pos (by omega), if_neg z]
        by_cases q : rd l ((i - 1 : Nat) : Int) ≥ rd l (i : Int)
        · rw [if_pos q]
          simp only [brOk]
          rw [show decide (rd l ((i - 1 : Nat) : Int) < rd l (i : Int)) = false from decide_eq_false (by omega)]
          simp
        · rw [if_neg q, w64s (by omega), e]
          simp only [brOk]
          rw [show decide (rd l ((i - 1 : Nat) : Int) < rd l (i : Int)) = true from decide_eq_true (by omega), c]
          simp
    · rw [if_neg c]
      have c' : leads w h (rd l (i : Int)) = false := by simpa using c
      by_cases z : i = 0
      · rw [if_pos z]; simp only [brOk, c', Bool.false_and]
      · rw [if_neg z]; simp only [brOk, c', Bool.false_and]
theorem impl_MeshOk_eq (w h : Int) (l : List Int) (k : Nat) (hl : l.length ≤ 1048576) (hk : 1048577 < k) : impl_MeshOk.f k w h l = some (meshOk w h l) := by
  unfold impl_MeshOk.f
  have e := impl_MeshOk_loop w h l (by omega) l.length 0 k (by omega) (by omega)
  rw [show ((0 : Nat) : Int) = 0 from rfl] at e
  rw [e]
  simp [meshOk, Bool.and_comm]

theorem spec_MeshOk_loop (w h : Int) (l : List Int) (hn : l.length ≤ 9223372036854775806) : ∀ (d i k : Nat), i + d = l.length → d < k → spec_MeshOk.l0 k (i : Int) w h l = some (brOk w h (if i = 0 then none else some (rd l ((i - 1 : Nat) : Int))) (l.drop i)) := by
  intro d
  induction d with
  | zero =>
    intro i k hi hk
    obtain ⟨k, rfl⟩ : ∃ m, k = m + 1 := ⟨k - 1, by omega⟩
    simp only [spec_MeshOk.l0]
    rw [if_neg (by omega), List.drop_eq_nil_of_le (by omega)]
    simp [brOk]
  | succ d ih =>
    intro i k hi hk
    obtain ⟨k, rfl⟩ : ∃ m, k = m + 1 := ⟨k - 1, by omega⟩
    simp only [spec_MeshOk.l0]
    rw [if_pos (by omega), if_pos (by omega), spec_l03Leads_eq, drop_rd l i (by omega)]
    simp only [Option.bind_some]
    by_cases c : leads w h (rd l (i : Int)) = true
    · rw [if_pos c]
      have e := ih (i + 1) k (by omega) (by omega)
      rw [if_neg (by omega), show i + 1 - 1 = i from by omega] at e
      by_cases z : i = 0
      · subst z
        rw [if_neg (by simp), w64s (by omega), e, if_pos rfl]
        simp only [brOk, c, Bool.true_and]
      · rw [if_pos (by omega), w64p (by omega) (by omega), if_pos (by omega), if_pos (by omega), if_neg z]
        by_cases q : rd l (i : Int) ≤ rd l ((i - 1 : Nat) : Int)
        · rw [if_pos q]
          simp only [brOk]
          rw [show decide (rd l ((i - 1 : Nat) : Int) < rd l (i : Int)) = false from decide_eq_false (by omega)]
          simp
        · rw [if_neg q, w64s (by omega), e]
          simp only [brOk]
          rw [show decide (rd l ((i - 1 : Nat) : Int) < rd l (i : Int)) = true from decide_eq_true (by omega), c]
          simp
    · rw [if_neg c]
      have c' : leads w h (rd l (i : Int)) = false := by simpa using c
      by_cases z : i = 0
      · rw [if_pos z]; simp only [brOk, c', Bool.false_and]
      · rw [if_neg z]; simp only [brOk, c', Bool.false_and]
theorem spec_MeshOk_eq (w h : Int) (l : List Int) (k : Nat) (hl : l.length ≤ 1048576) (hk : 1048577 < k) : spec_MeshOk.f k w h l = some (meshOk w h l) := by
  unfold spec_MeshOk.f
  have e := spec_MeshOk_loop w h l (by omega) l.length 0 k (by omega) (by omega)
  rw [show ((0 : Nat) : Int) = 0 from rfl] at e
  rw [e, spec_GridOk_eq]
  simp only [Option.bind_some, if_true]
  by_cases g : gok w h = true
  · rw [if_pos g]; simp [meshOk, g]
  · rw [if_neg g]; simp [meshOk, g]

theorem l03Find_loop (l : List Int) (c : Int) (hn : l.length ≤ 9223372036854775806) : ∀ (d i k : Nat), i + d = l.length → d < k → spec_l03Find.l0 k l c (i : Int) = some (decide (c ∈ l.drop i)) := by
  intro d
  induction d with
  | zero =>
    intro i k hi hk
    obtain ⟨k, rfl⟩ : ∃ m, k = m + 1 := ⟨k - 1, by omega⟩
    simp only [spec_l03Find.l0]
    rw [if_neg (by omega), List.drop_eq_nil_of_le (by omega)]
    simp
  | succ d ih =>
    intro i k hi hk
    obtain ⟨k, rfl⟩ : ∃ m, k = m + 1 := ⟨k - 1, by omega⟩
    simp only [spec_l03Find.l0]
    rw [if_pos (by omega), if_pos (by omega), drop_rd l i (by omega)]
    by_cases q : rd l (i : Int) = c
    · rw [if_pos q]; simp [q]
    · rw [if_neg q, w64s (by omega), ih (i + 1) k (by omega) (by omega)]
      have : ¬ c = rd l (i : Int) := fun e => q e.symm
      simp [this]
theorem l03Find_eq (l : List Int) (c : Int) (k : Nat) (hl : l.length ≤ 1048576) (hk : 1048577 < k) : spec_l03Find.f k l c = some (decide (c ∈ l)) := by
  unfold spec_l03Find.f
  have e := l03Find_loop l c (by omega) l.length 0 k (by omega) (by omega)
  simpa using e

theorem slicesIndex_loop (l : List Int) (c : Int) (hn : l.length ≤ 9223372036854775806) : ∀ (d i k : Nat), i + d = l.length → d < k → ∃ r, slices_Index_int_int.l0 k l c (l.length : Int) (i : Int) = some r ∧ (0 ≤ r ↔ c ∈ l.drop i) := by
  intro d
  induction d with
  | zero =>
    intro i k hi hk
    obtain ⟨k, rfl⟩ : ∃ m, k = m + 1 := ⟨k - 1, by omega⟩
    simp only [slices_Index_int_int.l0]
    rw [if_neg (by omega), List.drop_eq_nil_of_le (by omega)]
    exact ⟨-1, rfl, by simp⟩
  | succ d ih =>
    intro i k hi hk
    obtain ⟨k, rfl⟩ : ∃ m, k = m + 1 := ⟨k - 1, by omega⟩
    simp only [slices_Index_int_int.l0]
    rw [if_pos (by omega), if_pos (by omega), if_pos (by omega), drop_rd l i (by omega)]
    by_cases q : c = rd l (i : Int)
    · rw [if_pos q]; exact ⟨_, rfl, by simp [q]⟩
    · rw [if_neg q, w64s (by omega)]
      obtain ⟨r, h1, h2⟩ := ih (i + 1) k (by omega) (by omega)
      exact ⟨r, h1, by simp [q, h2]⟩
theorem slicesContains_eq (l : List Int) (c : Int) (k : Nat) (hl : l.length ≤ 1048576) (hk : 1048577 < k) : slices_Contains_int_int.f k l c = some (decide (c ∈ l)) := by
  unfold slices_Contains_int_int.f slices_Index_int_int.f
  obtain ⟨r, h1, h2⟩ := slicesIndex_loop l c (by omega) l.length 0 k (by omega) (by omega)
  rw [show ((0 : Nat) : Int) = 0 from rfl] at h1
  rw [h1]
  simp only [Option.bind_some]
  congr 1
  simpa using h2

theorem l03Has_eq (w h : Int) (l : List Int) (c : Int) (k : Nat) (hl : l.length ≤ 1048576) (hk : 1048577 < k) : spec_l03Has.f k w h l c = some (leads w h c && !decide (c ∈ l)) := by
  unfold spec_l03Has.f
  rw [spec_l03Leads_eq, l03Find_eq l c k hl hk]
  simp only [Option.bind_some]
  by_cases q : leads w h c = true <;> simp [q]

theorem impl_HasChannel_eq (w h : Int) (l : List Int) (c : Int) (k : Nat) (hl : l.length ≤ 1048576) (hk : 1048577 < k) : impl_HasChannel.f k w h l c = some (hasC w h l c) := by
  unfold impl_HasChannel.f
  rw [impl_MeshOk_eq w h l k hl hk, impl_leads_eq, slicesContains_eq l c k hl hk]
  simp only [Option.bind_some]
  by_cases q : meshOk w h l = true
  · by_cases q2 : leads w h c = true <;> simp [q, q2, hasC]
  · simp [q, hasC]

def prt (w h : Int) (l p : List Int) (n t : Int) : Int := if (meshOk w h l && (nd w h n && (nd w h t && (decide ((p.length : Int) = cnt w h * cnt w h) && inR (rd p (n * cnt w h + t)) 0 4)))) = true then rd p (n * cnt w h + t) else -1
theorem prt_bd {w h n t : Int} (d : nd w h n = true) (e : nd w h t = true) : 0 ≤ n * cnt w h + t ∧ n * cnt w h + t < cnt w h * cnt w h ∧ n * cnt w h ≤ 256 := by
  have b1 := nd_iff.1 d
  have b2 := nd_iff.1 e
  have b3 := cnt_bd w h
  have h1 : 0 ≤ n * cnt w h := Int.mul_nonneg b1.1 (by omega)
  have h2 : n * cnt w h ≤ (cnt w h - 1) * cnt w h := Int.mul_le_mul_of_nonneg_right (by omega) (by omega)
  have h3 : (cnt w h - 1) * cnt w h = cnt w h * cnt w h - cnt w h := by rw [Int.sub_mul, Int.one_mul]
  have h4 : cnt w h * cnt w h ≤ 16 * cnt w h := Int.mul_le_mul_of_nonneg_right (by omega) (by omega)
  omega

theorem impl_PortAt_eq (w h : Int) (l p : List Int) (n t : Int) (k : Nat) (hl : l.length ≤ 1048576) (hk : 1048577 < k) : impl_PortAt.f k w h l p n t = some (prt w h l p n t) := by
  have b := cnt_bd w h
  unfold impl_PortAt.f prt
  have e1 : wrap64 (cnt w h - 1) = cnt w h - 1 := wrap64_id (by omega) (by omega)
  have hc : cnt w h * cnt w h ≤ 16 * cnt w h := Int.mul_le_mul_of_nonneg_right (by omega) (by omega)
  have hc0 : 0 ≤ cnt w h * cnt w h := Int.mul_nonneg (by omega) (by omega)
  have e2 : wrap64 (cnt w h * cnt w h) = cnt w h * cnt w h := wrap64_id (by omega) (by omega)
  simp only [impl_NodeCount_eq, impl_MeshOk_eq w h l k hl hk, impl_inside_eq, Option.bind_some, e1, e2]
  have f1 : ∀ x, inR x 0 (cnt w h - 1) = nd w h x := fun _ => rfl
  simp only [f1]
  by_cases m : meshOk w h l = true
  · rw [if_pos m]
    by_cases d : nd w h n = true
    · rw [if_pos d]
      by_cases e : nd w h t = true
      · rw [if_pos e]
        have q := prt_bd d e
        rw [wrap64_id (x := n * cnt w h) (by have := Int.mul_nonneg (nd_iff.1 d).1 b.1; omega) (by omega), wrap64_id (x := n * cnt w h + t) (by omega) (by omega)]
        by_cases s : (p.length : Int) = cnt w h * cnt w h
        · rw [if_pos s, if_pos q.1, if_pos (by omega)]
          by_cases r : inR (rd p (n * cnt w h + t)) 0 4 = true
          · rw [if_pos r]; simp [m, d, e, s, r]
          · rw [if_neg r]; simp [r]
        · rw [if_neg s]; simp [s]
      · rw [if_neg e]; simp [e]
    · rw [if_neg d]; simp [d]
  · rw [if_neg m]; simp [m]

theorem impl_endOf_eq (w h : Int) (l : List Int) (c : Int) (h0 : 0 ≤ c) (h1 : c ≤ 1000) : impl_endOf.f w h l c = some (nxt w h (c / 4) (c % 4)) := by
  unfold impl_endOf.f
  rw [tmod_of h0, tdiv_of h0, wrap64_id (by omega) (by omega), impl_NextNode_eq]
  rfl

/-- a walk by the table, from a on, d channels at most -/
def wlk (w h : Int) (l p : List Int) (t : Int) : Nat → Int → List Int → List Int
  | 0, a, out => if rd p (a * cnt w h + t) = 4 then (if a = t then out else []) else []
  | d + 1, a, out => if rd p (a * cnt w h + t) = 4 then (if a = t then out else []) else if (inR (rd p (a * cnt w h + t)) 0 3 && hasC w h l (4 * a + rd p (a * cnt w h + t))) = true then wlk w h l p t d (nxt w h a (rd p (a * cnt w h + t))) (out ++ [4 * a + rd p (a * cnt w h + t)]) else []
theorem hasC_lead {w h : Int} {l : List Int} {a q : Int} (c : hasC w h l (4 * a + q) = true) (h0 : 0 ≤ q) (h1 : q ≤ 3) : nd w h (nxt w h a q) = true ∧ (leads w h (4 * a + q) && !decide (4 * a + q ∈ l)) = true := by
  unfold hasC at c
  have q2 : (leads w h (4 * a + q) && !decide (4 * a + q ∈ l)) = true := by simp only [Bool.and_eq_true] at c ⊢; exact c.2
  refine ⟨?_, q2⟩
  simp only [Bool.and_eq_true] at c
  have b := (leads_iff.1 c.2.1).2
  rw [show (4 * a + q) / 4 = a by omega, show (4 * a + q) % 4 = q by omega] at b
  exact (nxt_nd b).2
theorem impl_walk_loop (w h : Int) (l p : List Int) (t : Int) (hl : l.length ≤ 1048576) (m : meshOk w h l = true) (e : nd w h t = true) (hp : (p.length : Int) = cnt w h * cnt w h) : ∀ (d k : Nat) (a : Int) (out : List Int), nd w h a = true → (out.length : Int) + d = cnt w h → 1048600 + d < k → impl_WalkTable.l0 k t out a w h l p = some (wlk w h l p t d a out) := by
  have bc := cnt_bd w h
  intro d
  induction d with
  | zero =>
    intro k a out da ho hk
    obtain ⟨k, rfl⟩ : ∃ m, k = m + 1 := ⟨k - 1, by omega⟩
    have ba := nd_bd da
    have eP : prt w h l p a t = if inR (rd p (a * cnt w h + t)) 0 4 = true then rd p (a * cnt w h + t) else -1 := by unfold prt; simp [m, da, e, hp]
    simp only [impl_WalkTable.l0]
    rw [impl_PortAt_eq w h l p a t k hl (by omega), eP]
    simp only [wlk]
    generalize hq : rd p (a * cnt w h + t) = q
    simp only [Option.bind_some]
    by_cases c4 : q = 4
    · subst c4
      rw [if_pos (show inR 4 0 4 = true from rfl), if_neg (by omega), if_pos rfl, if_pos rfl]
      by_cases z : a = t
      · rw [if_pos z, if_pos z]
      · rw [if_neg z, if_neg z]
    · rw [if_neg c4]
      by_cases r : inR q 0 4 = true
      · have rb := inR_iff.1 r
        rw [if_pos r, if_neg (by omega), if_neg c4, wrap64_id (x := 4 * a) (by omega) (by omega), wrap64_id (x := 4 * a + q) (by omega) (by omega), impl_HasChannel_eq w h l _ k hl (by omega)]
        simp only [Option.bind_some]
        by_cases c : hasC w h l (4 * a + q) = true
        · rw [if_pos c, impl_NodeCount_eq]
          simp only [Option.bind_some]
          rw [if_pos (by omega)]
        · rw [if_neg c]
      · rw [if_neg r, if_pos (by omega)]
  | succ d ih =>
    intro k a out da ho hk
    obtain ⟨k, rfl⟩ : ∃ m, k = m + 1 := ⟨k - 1, by omega⟩
    have ba := nd_bd da
    have eP : prt w h l p a t = if inR (rd p (a * cnt w h + t)) 0 4 = true then rd p (a * cnt w h + t) else -1 := by unfold prt; simp [m, da, e, hp]
    simp only [impl_WalkTable.l0]
    rw [impl_PortAt_eq w h l p a t k hl (by omega), eP]
    simp only [wlk]
    generalize hq : rd p (a * cnt w h + t) = q
    simp only [Option.bind_some]
    by_cases c4 : q = 4
    · subst c4
      rw [if_pos (show inR 4 0 4 = true from rfl), if_neg (by omega), if_pos rfl, if_pos rfl]
      by_cases z : a = t
      · rw [if_pos z, if_pos z]
      · rw [if_neg z, if_neg z]
    · rw [if_neg c4]
      by_cases r : inR q 0 4 = true
      · have rb := inR_iff.1 r
        have r3 : inR q 0 3 = true := inR_iff.2 (by omega)
        rw [if_pos r, if_neg (by omega), if_neg c4, wrap64_id (x := 4 * a) (by omega) (by omega), wrap64_id (x := 4 * a + q) (by omega) (by omega), impl_HasChannel_eq w h l _ k hl (by omega)]
        simp only [Option.bind_some, r3, Bool.true_and]
        by_cases c : hasC w h l (4 * a + q) = true
        · rw [if_pos c, impl_NodeCount_eq, if_pos c]
          simp only [Option.bind_some]
          rw [if_neg (by omega), if_pos (by omega), impl_endOf_eq w h l _ (by omega) (by omega), show (4 * a + q) / 4 = a by omega, show (4 * a + q) % 4 = q by omega]
          simp only [Option.bind_some]
          rw [ih k _ _ (hasC_lead c (by omega) (by omega)).1 (by simp; omega) (by omega)]
        · rw [if_neg c, if_neg c]
      · have r3 : inR q 0 3 = false := inR_no.2 (fun x => r (inR_iff.2 (by omega)))
        rw [if_neg r, if_pos (by omega), if_neg (by simp [r3])]
def wt (w h : Int) (l p : List Int) (a b : Int) : List Int := wlk w h l p b (cnt w h).toNat a []
theorem wlk_len (w h : Int) (l p : List Int) (t : Int) : ∀ (d : Nat) (a : Int) (out : List Int), (wlk w h l p t d a out).length ≤ out.length + d
  | 0, a, out => by
    simp only [wlk]
    split
    · split <;> simp
    · simp
  | d + 1, a, out => by
    simp only [wlk]
    split
    · split <;> simp
    · split
      · have := wlk_len w h l p t d (nxt w h a (rd p (a * cnt w h + t))) (out ++ [4 * a + rd p (a * cnt w h + t)])
        simp at this; omega
      · simp
theorem wt_len (w h : Int) (l p : List Int) (a b : Int) : (wt w h l p a b).length ≤ 16 := by
  have q := wlk_len w h l p b (cnt w h).toNat a []
  have := cnt_bd w h
  unfold wt
  simp only [List.length_nil, Nat.zero_add] at q
  omega
/-- the walk, where the mesh, the table's size and the nodes are good -/
def wtb (w h : Int) (l p : List Int) (a b : Int) : List Int := if (decide (a ≠ b) && (meshOk w h l && (nd w h a && (nd w h b && decide ((p.length : Int) = cnt w h * cnt w h))))) = true then wt w h l p a b else []
theorem impl_WalkTable_eq (w h : Int) (l p : List Int) (a b : Int) (k : Nat) (hl : l.length ≤ 1048576) (hk : 1048700 < k) : impl_WalkTable.f k w h l p a b = some (wtb w h l p a b) := by
  have bc := cnt_bd w h
  obtain ⟨k, rfl⟩ : ∃ m, k = m + 1 + 1 := ⟨k - 2, by omega⟩
  unfold impl_WalkTable.f wtb
  by_cases z : a = b
  · rw [if_pos z]; simp [impl_WalkTable.j0, z]
  rw [if_neg z, impl_MeshOk_eq w h l _ hl (by omega), impl_isNode_eq, impl_isNode_eq]
  simp only [Option.bind_some, impl_WalkTable.j0]
  by_cases m : meshOk w h l = true
  · rw [if_pos m]
    by_cases da : nd w h a = true
    · rw [if_pos da]
      by_cases e : nd w h b = true
      · rw [if_neg (by simp [e])]
        by_cases hp : (p.length : Int) = cnt w h * cnt w h
        · rw [if_pos (by simp [z, m, da, e, hp])]
          exact impl_walk_loop w h l p b hl m e hp _ (k + 1) a [] da (by simp; omega) (by omega)
        · rw [if_neg (by simp [hp])]
          simp only [impl_WalkTable.l0]
          rw [impl_PortAt_eq w h l p a b k hl (by omega), show prt w h l p a b = -1 by unfold prt; simp [hp]]
          rfl
      · rw [if_pos (by simp [e]), if_neg (by simp [e])]
    · rw [if_neg da]; simp [da]
  · rw [if_neg m]; simp [m]

theorem spec_walk_loop (w h : Int) (l p : List Int) (t : Int) (hl : l.length ≤ 1048576) (m : meshOk w h l = true) (e : nd w h t = true) (hp : (p.length : Int) = cnt w h * cnt w h) : ∀ (d k : Nat) (a : Int) (out : List Int), nd w h a = true → (out.length : Int) + d = cnt w h → 1048600 + d < k → spec_l04Walk.l0 k t out (cnt w h) a w h l p = some (wlk w h l p t d a out) := by
  have bc := cnt_bd w h
  intro d
  induction d with
  | zero =>
    intro k a out da ho hk
    obtain ⟨k, rfl⟩ : ∃ m, k = m + 1 + 1 := ⟨k - 2, by omega⟩
    have ba := nd_bd da
    have be := nd_bd e
    have ib := prt_bd da e
    have h9 : 0 ≤ a * cnt w h := Int.mul_nonneg (by omega) (by omega)
    simp only [spec_l04Walk.l0]
    rw [if_pos (by omega), wrap64_id (x := a * cnt w h) (by omega) (by omega), wrap64_id (x := a * cnt w h + t) (by omega) (by omega), if_pos ib.1, if_pos (by omega)]
    simp only [wlk]
    generalize hq : rd p (a * cnt w h + t) = q
    by_cases c4 : q = 4
    · rw [if_pos c4, if_pos c4]
      by_cases z : a = t
      · rw [if_pos z, if_pos z]
      · rw [if_neg z, if_neg z]
    · rw [if_neg c4, if_neg c4, spec_l01In_eq]
      simp only [Option.bind_some]
      by_cases r : inR q 0 3 = true
      · have rb := inR_iff.1 r
        rw [if_pos r, wrap64_id (x := 4 * a) (by omega) (by omega), wrap64_id (x := 4 * a + q) (by omega) (by omega), l03Has_eq w h l _ _ hl (by omega)]
        simp only [Option.bind_some]
        by_cases c : (leads w h (4 * a + q) && !decide (4 * a + q ∈ l)) = true
        · rw [if_pos c, if_pos (by omega), spec_NextNode_eq]
          simp only [Option.bind_some]
          rw [if_neg (by simp; omega)]
        · rw [if_neg c]
      · rw [if_neg r]
  | succ d ih =>
    intro k a out da ho hk
    obtain ⟨k, rfl⟩ : ∃ m, k = m + 1 := ⟨k - 1, by omega⟩
    have ba := nd_bd da
    have be := nd_bd e
    have ib := prt_bd da e
    have h9 : 0 ≤ a * cnt w h := Int.mul_nonneg (by omega) (by omega)
    simp only [spec_l04Walk.l0]
    rw [if_pos (by omega), wrap64_id (x := a * cnt w h) (by omega) (by omega), wrap64_id (x := a * cnt w h + t) (by omega) (by omega), if_pos ib.1, if_pos (by omega)]
    simp only [wlk]
    generalize hq : rd p (a * cnt w h + t) = q
    by_cases c4 : q = 4
    · rw [if_pos c4, if_pos c4]
      by_cases z : a = t
      · rw [if_pos z, if_pos z]
      · rw [if_neg z, if_neg z]
    · rw [if_neg c4, if_neg c4, spec_l01In_eq]
      simp only [Option.bind_some]
      by_cases r : inR q 0 3 = true
      · have rb := inR_iff.1 r
        rw [if_pos r, wrap64_id (x := 4 * a) (by omega) (by omega), wrap64_id (x := 4 * a + q) (by omega) (by omega), l03Has_eq w h l _ _ hl (by omega)]
        simp only [Option.bind_some, r, Bool.true_and]
        by_cases c : hasC w h l (4 * a + q) = true
        · rw [if_pos (hasC_lead c (by omega) (by omega)).2, if_pos (by omega), spec_NextNode_eq, if_pos c]
          simp only [Option.bind_some]
          rw [ih k _ _ (hasC_lead c (by omega) (by omega)).1 (by simp; omega) (by omega)]
        · rw [if_neg c, if_neg (by unfold hasC at c; simpa [m] using c)]
      · have r3 : inR q 0 3 = false := by simpa using r
        rw [if_neg r, if_neg (by simp [r3])]
theorem spec_l04Walk_eq (w h : Int) (l p : List Int) (a b : Int) (k : Nat) (hl : l.length ≤ 1048576) (m : meshOk w h l = true) (da : nd w h a = true) (e : nd w h b = true) (hp : (p.length : Int) = cnt w h * cnt w h) (hk : 1048700 < k) : spec_l04Walk.f k w h l p a b = some (wt w h l p a b) := by
  have bc := cnt_bd w h
  unfold spec_l04Walk.f wt
  rw [spec_NodeCount_eq]
  simp only [Option.bind_some]
  exact spec_walk_loop w h l p b hl m e hp _ k a [] da (by simp; omega) (by omega)
theorem spec_l04Sized_eq (w h : Int) (l p : List Int) (k : Nat) (hl : l.length ≤ 1048576) (hk : 1048577 < k) : spec_l04Sized.f k w h l p = some (meshOk w h l && decide ((p.length : Int) = cnt w h * cnt w h)) := by
  have bc := cnt_bd w h
  have hc : cnt w h * cnt w h ≤ 16 * cnt w h := Int.mul_le_mul_of_nonneg_right (by omega) (by omega)
  have hc0 : 0 ≤ cnt w h * cnt w h := Int.mul_nonneg (by omega) (by omega)
  unfold spec_l04Sized.f
  rw [spec_NodeCount_eq, spec_MeshOk_eq w h l k hl hk]
  simp only [Option.bind_some]
  rw [wrap64_id (x := cnt w h * cnt w h) (by omega) (by omega)]
  by_cases m : meshOk w h l = true
  · rw [if_pos m, m, Bool.true_and]; rfl
  · rw [if_neg m]; simp [m]

theorem spec_WalkTable_eq (w h : Int) (l p : List Int) (a b : Int) (k : Nat) (hl : l.length ≤ 1048576) (hk : 1048700 < k) : spec_WalkTable.f k w h l p a b = some (wtb w h l p a b) := by
  unfold spec_WalkTable.f wtb
  rw [spec_l04Sized_eq w h l p k hl (by omega), spec_l02Has_eq, spec_l02Has_eq]
  simp only [Option.bind_some]
  by_cases s : (meshOk w h l && decide ((p.length : Int) = cnt w h * cnt w h)) = true
  · rw [if_pos s]
    simp only [Bool.and_eq_true, decide_eq_true_eq] at s
    by_cases da : nd w h a = true
    · rw [if_pos da]
      by_cases e : nd w h b = true
      · rw [if_pos e]
        by_cases z : a = b
        · rw [if_pos z, if_neg (by simp [z])]
        · rw [if_neg z, if_pos (by simp [z, s.1, da, e, s.2]), spec_l04Walk_eq w h l p a b k hl s.1 da e s.2 hk]; rfl
      · rw [if_neg e, if_neg (by simp [e])]
    · rw [if_neg da, if_neg (by simp [da])]
  · rw [if_neg s, if_neg (by intro x; apply s; simp only [Bool.and_eq_true] at x ⊢; exact ⟨x.2.1, x.2.2.2.2⟩)]
theorem wtb_len (w h : Int) (l p : List Int) (a b : Int) : (wtb w h l p a b).length ≤ 16 := by
  unfold wtb
  split
  · exact wt_len w h l p a b
  · simp

theorem eqIntS_big (a : List Int) (k : Nat) (ha : a.length ≤ 2000000) (hk : 2000001 < k) : laws_eqIntS.f k a a = some true := by
  unfold laws_eqIntS.f
  rw [if_pos rfl]
  have h := eqIntS_loop a a (by omega) (by omega) a.length 0 k (by omega) (by omega)
  simpa using h

theorem mark_held3 (l : List Int) (k : Nat) (hl : l.length ≤ 2000000) (hk : 2000001 < k) : ∃ r, laws_markIntS.f k l 1 = some (1 + (l.length : Int), r) ∧ ∀ k', 2000001 < k' → laws_heldIntS.f k' r 1 = some (1 + (l.length : Int)) := by
  refine ⟨(List.range l.length).map fun j => ((1 + j : Nat) : Int), ?_, fun k' hk' => ?_⟩
  · have h := markIntS_eq l 1 k (by omega) (by omega)
    rw [show ((1 : Nat) : Int) = 1 from rfl] at h
    rw [h, show ((1 + l.length : Nat) : Int) = 1 + (l.length : Int) by omega]
  · have h := heldIntS_eq l.length 1 k' (by omega) (by omega)
    rw [show ((1 : Nat) : Int) = 1 from rfl] at h
    rw [h, show ((1 + l.length : Nat) : Int) = 1 + (l.length : Int) by omega]

theorem mark_table (l : List Int) (m k : Nat) (hl : l.length ≤ 1048576) (hm : m ≤ 100000000) (hk : 1048577 < k) : ∃ r, laws_markTable.f k l (m : Int) = some (((m + l.length : Nat) : Int), r) := by
  obtain ⟨r, h⟩ := mark_any l m k hl hm hk
  exact ⟨r, by unfold laws_markTable.f; rw [h]; rfl⟩

theorem FnExactWalkTable : laws_FnExactWalkTable.Pure := by
  intro w h l p a b _ _ hl _ hp _ _ _
  obtain ⟨k, hk⟩ : ∃ k : Nat, 4000000 ≤ k := ⟨_, Nat.le_refl _⟩
  refine ⟨k + 1, ?_⟩
  unfold laws_FnExactWalkTable.f
  rw [szMesh_eq w h l 1048576 (by omega) hl]
  simp only [Option.bind_some]
  by_cases c : (l.length : Int) ≤ 1048576
  · rw [if_pos c, if_neg (by omega), szTable_eq p _ (by omega) hp]
    simp only [Option.bind_some]
    by_cases c2 : (p.length : Int) ≤ 1048576 - l.length
    · rw [if_pos c2, if_neg (by omega)]
      have hs := wtb_len w h l p a b
      obtain ⟨r, m1⟩ := mark_any l 1 (k + 1) (by omega) (by omega) (by omega)
      rw [show ((1 : Nat) : Int) = 1 from rfl] at m1
      have m1' : laws_markMesh.f (k + 1) w h l 1 = some (((1 + l.length : Nat) : Int), r) := by unfold laws_markMesh.f; rw [m1]; rfl
      obtain ⟨r3, m4⟩ := mark_table p (1 + l.length) (k + 1) (by omega) (by omega) (by omega)
      obtain ⟨r2, m2, m3⟩ := mark_held3 (wtb w h l p a b) k (by omega) (by omega)
      simp only [toMesh_eq w h l (k + 1) (by omega) (by omega), toTable_eq p (k + 1) (by omega) (by omega), spec_WalkTable_eq w h l p a b (k + 1) (by omega) (by omega), impl_WalkTable_eq w h l p a b (k + 1) (by omega) (by omega), eqIntS_self (wtb w h l p a b) (k + 1) (by omega) (by omega), eqMesh_self w h l (k + 1) (by omega) (by omega), eqTable_self p (k + 1) (by omega) (by omega), m1', m4, Option.bind_some, if_true]
      rw [if_neg (by omega)]
      simp only [laws_FnExactWalkTable.j0, m2, m3 k (by omega), toMesh_eq w h l k (by omega) (by omega), toTable_eq p k (by omega) (by omega), impl_WalkTable_eq w h l p a b k (by omega) (by omega), eqIntS_self (wtb w h l p a b) k (by omega) (by omega), Option.bind_some, if_true]
      rw [if_neg (by simp), if_neg (by omega), if_neg (by omega)]
    · rw [if_neg c2, if_pos (by omega)]
  · rw [if_neg c, if_pos (by omega)]

end Go.Proofs.Ytiehmmannfambaa.Pure
