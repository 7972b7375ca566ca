/- What is proved: the statement FnExactJoinRoutes, in its pure form, over numbers and lists: the program's and the reference's JoinRoutes agree for all arguments, the arguments stay, and the result is the caller's own (no conditions). -/
import Derived.Test.YtmfkgnfjjfnfmaaXJ5
import Derived.Test.YtmfkgnfjjfnfmaaModel
set_option linter.unusedVariables false
set_option linter.unusedSimpArgs false
namespace Go.Proofs.Ytmfkgnfjjfnfmaa.Pure
open Go.RowKit Go.Proofs.Ytmfkgnfjjfnfmaa.XJ Go.Proofs.Ytmfkgnfjjfnfmaa.M Go.Proofs.YtmfkgnfjjfnfmaaW.PrintWords Go.Proofs.YtmfkgnfjjfnfmaaW.PrintLast
theorem rd_nat (l : List Int) (i : Nat) (h : i < l.length) : rd l (i : Int) = l[i] := by unfold rd; simp [h]
theorem drop_rd (l : List Int) (i : Nat) (h : i < l.length) : l.drop i = rd l (i : Int) :: l.drop (i + 1) := by
  rw [rd_nat l i h]; exact List.drop_eq_getElem_cons h
theorem w64s {i : Nat} (h : i ≤ 9223372036854775806) : wrap64 ((i : Int) + 1) = ((i + 1 : Nat) : Int) := by rw [wrap64_id (by omega) (by omega)]; omega
theorem w64p {i : Nat} (h : i ≤ 9223372036854775806) (h0 : 0 < i) : wrap64 ((i : Int) - 1) = ((i - 1 : Nat) : Int) := by rw [wrap64_id (by omega) (by omega)]; omega

theorem impl_inside_eq (a b c : Int) : impl_inside.f a b c = some (inR a b c) := by
  unfold impl_inside.f inR
  by_cases h : b ≤ a <;> simp [h]

theorem impl_GridOk_eq (w h : Int) : impl_GridOk.f w h = some (gok w h) := by
  unfold impl_GridOk.f gok
  simp only [impl_inside_eq, Option.bind_some]
  cases inR w 1 4 <;> rfl

theorem impl_NodeCount_eq (w h : Int) : impl_NodeCount.f w h = some (cnt w h) := by
  unfold impl_NodeCount.f
  simp only [impl_GridOk_eq, Option.bind_some]
  by_cases g : gok w h = true
  · have b := cnt_bd w h
    rw [if_pos g, cnt_ok g]
    rw [cnt_ok g] at b
    rw [wrap64_id (by omega) (by omega)]
  · rw [if_neg g, cnt_no (by simpa using g)]

theorem impl_isNode_eq (w h n : Int) : impl_isNode.f w h n = some (nd w h n) := by
  have b := cnt_bd w h
  unfold impl_isNode.f nd
  simp only [impl_NodeCount_eq, impl_inside_eq, Option.bind_some]
  rw [wrap64_id (by omega) (by omega)]

theorem impl_NodeAt_eq (w h x y : Int) : impl_NodeAt.f w h x y = some (natx w h x y) := by
  unfold impl_NodeAt.f natx
  simp only [impl_GridOk_eq, impl_inside_eq, Option.bind_some]
  by_cases g : gok w h = true
  · have b := gok_iff.1 g
    rw [if_pos g, wrap64_id (x := w - 1) (by omega) (by omega), wrap64_id (x := h - 1) (by omega) (by omega)]
    by_cases hx : inR x 0 (w - 1) = true
    · rw [if_pos hx]
      by_cases hy : inR y 0 (h - 1) = true
      · rw [if_pos hy, if_pos (by simp [g, hx, hy])]
        rw [inR_iff] at hx hy
        have e : wrap64 (y * w) = y * w := by rcases w4 g with rfl | rfl | rfl | rfl <;> exact wrap64_id (by omega) (by omega)
        have e2 : wrap64 (y * w + x) = y * w + x := by rcases w4 g with rfl | rfl | rfl | rfl <;> exact wrap64_id (by omega) (by omega)
        rw [e, e2]
      · rw [if_neg hy, if_neg (by simp [hy])]
    · rw [if_neg hx, if_neg (by simp [hx])]
  · rw [if_neg g, if_neg (by simp [g])]

theorem impl_NextNode_eq (w h n p : Int) : impl_NextNode.f w h n p = some (nxt w h n p) := by
  unfold impl_NextNode.f nxt
  simp only [impl_isNode_eq, Option.bind_some]
  by_cases d : nd w h n = true
  · have b := nd_bd d
    rw [if_pos d, if_pos d, if_neg (by omega)]
    simp only [impl_NodeAt_eq, Option.bind_some, tmod_of (show 0 ≤ n by omega), tdiv_of (show 0 ≤ n by omega)]
    rw [wrap64_id (x := n / w) (by omega) (by omega), wrap64_id (x := n / w - 1) (by omega) (by omega), wrap64_id (x := n / w + 1) (by omega) (by omega), wrap64_id (x := n % w + 1) (by omega) (by omega), wrap64_id (x := n % w - 1) (by omega) (by omega)]
    repeat' split
    all_goals rfl
  · rw [if_neg d, if_neg d]

theorem impl_leads_eq (w h c : Int) : impl_leads.f w h c = some (leads w h c) := by
  have b := cnt_bd w h
  unfold impl_leads.f leads
  simp only [impl_NodeCount_eq, impl_inside_eq, Option.bind_some, impl_NextNode_eq]
  rw [wrap64_id (x := 4 * cnt w h) (by omega) (by omega), wrap64_id (by omega) (by omega)]
  by_cases r : inR c 0 (4 * cnt w h - 1) = true
  · have b := inR_iff.1 r
    rw [if_pos r, tdiv_of (by omega), wrap64_id (by omega) (by omega), tmod_of (by omega), r]
    rfl
  · rw [if_neg r]
    simp [r]

theorem spec_l01In_eq (a b c : Int) : spec_l01In.f a b c = some (inR a b c) := by
  unfold spec_l01In.f inR
  by_cases h : b ≤ a <;> simp [h]

theorem spec_GridOk_eq (w h : Int) : spec_GridOk.f w h = some (gok w h) := by
  unfold spec_GridOk.f gok
  simp only [spec_l01In_eq, Option.bind_some]
  cases inR w 1 4 <;> rfl

theorem spec_NodeCount_eq (w h : Int) : spec_NodeCount.f w h = some (cnt w h) := by
  unfold spec_NodeCount.f
  simp only [spec_GridOk_eq, Option.bind_some]
  by_cases g : gok w h = true
  · have b := cnt_bd w h
    rw [if_pos g, cnt_ok g]
    rw [cnt_ok g] at b
    rw [wrap64_id (by omega) (by omega)]
  · rw [if_neg g, cnt_no (by simpa using g)]

theorem spec_l02Has_eq (w h n : Int) : spec_l02Has.f w h n = some (nd w h n) := by
  have b := cnt_bd w h
  unfold spec_l02Has.f nd
  simp only [spec_NodeCount_eq, spec_l01In_eq, Option.bind_some]
  rw [wrap64_id (by omega) (by omega)]

theorem spec_NodeAt_eq (w h x y : Int) : spec_NodeAt.f w h x y = some (natx w h x y) := by
  unfold spec_NodeAt.f natx
  simp only [spec_GridOk_eq, spec_l01In_eq, Option.bind_some]
  by_cases g : gok w h = true
  · have b := gok_iff.1 g
    rw [if_pos g, wrap64_id (x := w - 1) (by omega) (by omega), wrap64_id (x := h - 1) (by omega) (by omega)]
    by_cases hx : inR x 0 (w - 1) = true
    · rw [if_pos hx]
      by_cases hy : inR y 0 (h - 1) = true
      · rw [if_pos hy, if_pos (by simp [g, hx, hy])]
        rw [inR_iff] at hx hy
        have e : wrap64 (y * w) = y * w := by rcases w4 g with rfl | rfl | rfl | rfl <;> exact wrap64_id (by omega) (by omega)
        have e2 : wrap64 (y * w + x) = y * w + x := by rcases w4 g with rfl | rfl | rfl | rfl <;> exact wrap64_id (by omega) (by omega)
        rw [e, e2]
      · rw [if_neg hy, if_neg (by simp [hy])]
    · rw [if_neg hx, if_neg (by simp [hx])]
  · rw [if_neg g, if_neg (by simp [g])]

theorem spec_NextNode_eq (w h n p : Int) : spec_NextNode.f w h n p = some (nxt w h n p) := by
  unfold spec_NextNode.f nxt
  simp only [spec_l02Has_eq, Option.bind_some]
  by_cases d : nd w h n = true
  · have b := nd_bd d
    rw [if_pos d, if_pos d, if_neg (by omega)]
    simp only [spec_NodeAt_eq, Option.bind_some, tmod_of (show 0 ≤ n by omega), tdiv_of (show 0 ≤ n by omega)]
    rw [wrap64_id (x := n / w) (by omega) (by omega), wrap64_id (x := n / w - 1) (by omega) (by omega), wrap64_id (x := n / w + 1) (by omega) (by omega), wrap64_id (x := n % w + 1) (by omega) (by omega), wrap64_id (x := n % w - 1) (by omega) (by omega)]
    repeat' split
    all_goals rfl
  · rw [if_neg d, if_neg d]

theorem spec_l03Leads_eq (w h c : Int) : spec_l03Leads.f w h c = some (leads w h c) := by
  have b := cnt_bd w h
  unfold spec_l03Leads.f leads
  simp only [spec_NodeCount_eq, spec_l01In_eq, Option.bind_some, spec_NextNode_eq]
  rw [wrap64_id (x := 4 * cnt w h) (by omega) (by omega), wrap64_id (by omega) (by omega)]
  by_cases r : inR c 0 (4 * cnt w h - 1) = true
  · have b := inR_iff.1 r
    rw [if_pos r, tdiv_of (by omega), wrap64_id (by omega) (by omega), tmod_of (by omega), r]
    rfl
  · rw [if_neg r]
    simp [r]

theorem laws_toGrid_eq (w h : Int) : laws_toGrid.f w h = some (w, h) := rfl

theorem toIntS_loop (x0 : List Int) (hn : x0.length ≤ 9223372036854775806) : ∀ (d i k : Nat) (x3 : List Int), i + d = x0.length → d < k → x3.length = x0.length → (∀ j, j < i → x3[j]? = x0[j]?) → laws_toIntS.l0 k x0 x3 (i : Int) = some x0 := by
  intro d
  induction d with
  | zero =>
    intro i k x3 hi hk hl hx
    obtain ⟨k, rfl⟩ : ∃ m, k = m + 1 := ⟨k - 1, by omega⟩
    simp only [laws_toIntS.l0]
    rw [if_neg (by omega)]
    congr 1
    apply List.ext_getElem?
    intro j
    by_cases hj : j < x0.length
    · exact hx j (by omega)
    · rw [List.getElem?_eq_none (by omega), List.getElem?_eq_none (by omega)]
  | succ d ih =>
    intro i k x3 hi hk hl hx
    obtain ⟨k, rfl⟩ : ∃ m, k = m + 1 := ⟨k - 1, by omega⟩
    simp only [laws_toIntS.l0]
    rw [if_pos (by omega), if_pos (by omega), if_pos (by omega), w64s (by omega)]
    refine ih (i + 1) k _ (by omega) (by omega) (by simpa using hl) fun j hj => ?_
    have e : ((i : Int)).toNat = i := by simp
    rw [e, List.getElem?_set]
    by_cases c : i = j
    · subst c; rw [if_pos rfl, if_pos (by omega), rd_nat _ _ (by omega), List.getElem?_eq_getElem (by omega)]
    · rw [if_neg c]; exact hx j (by omega)
theorem toIntS_eq (l : List Int) (k : Nat) (hl : l.length ≤ 1048576) (hk : 1048577 < k) : laws_toIntS.f k l = some l := by
  unfold laws_toIntS.f
  rw [if_pos (by omega), if_pos (by simp; omega)]
  exact toIntS_loop l (by omega) l.length 0 k _ (by omega) (by omega) (by simp) (by simp)

theorem eqIntS_loop (a b : List Int) (hl : a.length = b.length) (hn : a.length ≤ 9223372036854775806) : ∀ (d i k : Nat), i + d = a.length → d < k → laws_eqIntS.l0 k a b (i : Int) = some (decide (a.drop i = b.drop i)) := by
  intro d
  induction d with
  | zero =>
    intro i k hi hk
    obtain ⟨k, rfl⟩ : ∃ m, k = m + 1 := ⟨k - 1, by omega⟩
    simp only [laws_eqIntS.l0]
    rw [if_neg (by omega), List.drop_eq_nil_of_le (by omega), List.drop_eq_nil_of_le (by omega)]
    simp
  | succ d ih =>
    intro i k hi hk
    obtain ⟨k, rfl⟩ : ∃ m, k = m + 1 := ⟨k - 1, by omega⟩
    simp only [laws_eqIntS.l0]
    rw [if_pos (by omega), if_pos (by omega), if_pos (by omega), drop_rd a i (by omega), drop_rd b i (by omega)]
    by_cases c : rd a (i : Int) = rd b (i : Int)
    · rw [if_pos c, w64s (by omega), ih (i + 1) k (by omega) (by omega)]
      simp [c]
    · rw [if_neg c]; simp [c]
theorem eqIntS_eq (a b : List Int) (k : Nat) (ha : a.length ≤ 1048576) (hk : 1048577 < k) : laws_eqIntS.f k a b = some (decide (a = b)) := by
  unfold laws_eqIntS.f
  by_cases c : (a.length : Int) = (b.length : Int)
  · rw [if_pos c]
    have h := eqIntS_loop a b (by omega) (by omega) a.length 0 k (by omega) (by omega)
    simpa using h
  · rw [if_neg c]
    have : a ≠ b := fun e => c (by rw [e])
    simp [this]
theorem eqIntS_self (a : List Int) (k : Nat) (ha : a.length ≤ 1048576) (hk : 1048577 < k) : laws_eqIntS.f k a a = some true := by rw [eqIntS_eq a a k ha hk]; simp

theorem markIntS_loop (n m0 : Nat) (hn : n + m0 ≤ 4000000000) : ∀ (d i k : Nat) (x : List Int), i + d = n → d < k → x.length = n → (∀ j, j < i → x[j]? = some ((m0 + j : Nat) : Int)) → laws_markIntS.l0 k x ((m0 + i : Nat) : Int) (i : Int) = some (((m0 + n : Nat) : Int), (List.range n).map fun j => ((m0 + j : Nat) : Int)) := by
  intro d
  induction d with
  | zero =>
    intro i k x hi hk hl hx
    obtain ⟨k, rfl⟩ : ∃ m, k = m + 1 := ⟨k - 1, by omega⟩
    simp only [laws_markIntS.l0]
    rw [if_neg (by omega)]
    have e : x = (List.range n).map fun j => ((m0 + j : Nat) : Int) := by
      apply List.ext_getElem?
      intro j
      by_cases hj : j < n
      · rw [hx j (by omega)]; simp [hj]
      · rw [List.getElem?_eq_none (by omega), List.getElem?_eq_none (by simp; omega)]
    obtain rfl : i = n := by omega
    rw [← e]
  | succ d ih =>
    intro i k x hi hk hl hx
    obtain ⟨k, rfl⟩ : ∃ m, k = m + 1 := ⟨k - 1, by omega⟩
    simp only [laws_markIntS.l0]
    rw [if_pos (by omega), if_pos (by omega), w64s (by omega), w64s (by omega)]
    have e2 : m0 + i + 1 = m0 + (i + 1) := by omega
    rw [e2]
    refine ih (i + 1) k _ (by omega) (by omega) (by simpa using hl) fun j hj => ?_
    have e : ((i : Int)).toNat = i := by simp
    rw [e, List.getElem?_set]
    by_cases c : i = j
    · subst c; rw [if_pos rfl, if_pos (by omega)]
    · rw [if_neg c]; exact hx j (by omega)
theorem markIntS_eq (l : List Int) (m0 k : Nat) (hl : l.length + m0 ≤ 4000000000) (hk : l.length < k) : laws_markIntS.f k l (m0 : Int) = some (((m0 + l.length : Nat) : Int), (List.range l.length).map fun j => ((m0 + j : Nat) : Int)) := by
  unfold laws_markIntS.f
  have h := markIntS_loop l.length m0 (by omega) l.length 0 k l (by omega) (by omega) rfl (by simp)
  simpa using h

theorem heldIntS_loop (n m0 : Nat) (hn : n + m0 ≤ 4000000000) : ∀ (d i k : Nat), i + d = n → d < k → laws_heldIntS.l0 k ((List.range n).map fun j => ((m0 + j : Nat) : Int)) ((m0 + i : Nat) : Int) (i : Int) = some ((m0 + n : Nat) : Int) := by
  intro d
  induction d with
  | zero =>
    intro i k hi hk
    obtain ⟨k, rfl⟩ : ∃ m, k = m + 1 := ⟨k - 1, by omega⟩
    simp only [laws_heldIntS.l0]
    rw [if_neg (by simp; omega)]
    obtain rfl : i = n := by omega
    rfl
  | succ d ih =>
    intro i k hi hk
    obtain ⟨k, rfl⟩ : ∃ m, k = m + 1 := ⟨k - 1, by omega⟩
    simp only [laws_heldIntS.l0]
    rw [if_pos (by simp; omega), if_pos (by omega), if_pos (by rw [rd_nat _ _ (by simp; omega)]; simp), w64s (by omega), w64s (by omega)]
    have e2 : m0 + i + 1 = m0 + (i + 1) := by omega
    rw [e2]
    exact ih (i + 1) k (by omega) (by omega)
theorem heldIntS_eq (n m0 k : Nat) (hl : n + m0 ≤ 4000000000) (hk : n < k) : laws_heldIntS.f k ((List.range n).map fun j => ((m0 + j : Nat) : Int)) (m0 : Int) = some ((m0 + n : Nat) : Int) := by
  unfold laws_heldIntS.f
  have h := heldIntS_loop n m0 (by omega) n 0 k (by omega) (by omega)
  simpa using h

theorem mark_held (l : List Int) (k : Nat) (hl : l.length ≤ 1048576) (hk : 1048577 < k) : ∃ r, laws_markIntS.f k l 1 = some (1 + (l.length : Int), r) ∧ laws_heldIntS.f k r 1 = some (1 + (l.length : Int)) := by
  refine ⟨_, ?_, heldIntS_eq l.length 1 k (by omega) (by omega) |>.trans ?_⟩
  · have h := markIntS_eq l 1 k (by omega) (by omega)
    rw [show ((1 : Nat) : Int) = 1 from rfl] at h
    rw [h]
    simp
  · simp
theorem mark_any (l : List Int) (m k : Nat) (hl : l.length ≤ 1048576) (hm : m ≤ 100000000) (hk : 1048577 < k) : ∃ r, laws_markIntS.f k l (m : Int) = some (((m + l.length : Nat) : Int), r) := ⟨_, markIntS_eq l m k (by omega) (by omega)⟩

theorem szIntS_eq (l : List Int) (a : Int) (h : 0 ≤ a ∧ a ≤ 1048576) (hl : l.length ≤ maxLen) : laws_szIntS.f l a = some (if (l.length : Int) ≤ a then a - l.length else -1) := by
  unfold maxLen at hl
  unfold laws_szIntS.f
  rw [wrap64_id (by omega) (by omega)]
  by_cases c : (l.length : Int) ≤ a
  · rw [if_neg (by omega), if_pos c]
  · rw [if_pos (by omega), if_neg c]

theorem szMesh_eq (w h : Int) (l : List Int) (a : Int) (ha : 0 ≤ a ∧ a ≤ 1048576) (hl : l.length ≤ maxLen) : laws_szMesh.f w h l a = some (if (l.length : Int) ≤ a then a - l.length else -1) := by
  unfold laws_szMesh.f
  rw [szIntS_eq l a ha hl]
  simp only [Option.bind_some]
  by_cases c : (l.length : Int) ≤ a
  · rw [if_pos c, if_neg (by omega)]
  · rw [if_neg c, if_pos (by omega)]

theorem toMesh_eq (w h : Int) (l : List Int) (k : Nat) (hl : l.length ≤ 1048576) (hk : 1048577 < k) : laws_toMesh.f k w h l = some (w, h, l) := by
  unfold laws_toMesh.f
  rw [laws_toGrid_eq, toIntS_eq l k hl hk]
  rfl

theorem eqMesh_self (w h : Int) (l : List Int) (k : Nat) (hl : l.length ≤ 1048576) (hk : 1048577 < k) : laws_eqMesh.f k w h l w h l = some true := by
  unfold laws_eqMesh.f laws_eqGrid.f
  rw [eqIntS_self l k hl hk]
  simp

theorem impl_MeshOk_loop (w h : Int) (l : List Int) (hn : l.length ≤ 9223372036854775806) : ∀ (d i k : Nat), i + d = l.length → d < k → impl_MeshOk.l0 k l (l.length : Int) (i : Int) w h l = some (brOk w h (if i = 0 then none else some (rd l ((i - 1 : Nat) : Int))) (l.drop i) && gok w h) := by
  intro d
  induction d with
  | zero =>
    intro i k hi hk
    obtain ⟨k, rfl⟩ : ∃ m, k = m + 1 := ⟨k - 1, by omega⟩
    simp only [impl_MeshOk.l0]
    rw [if_neg (by omega), impl_GridOk_eq, List.drop_eq_nil_of_le (by omega)]
    simp [brOk]
  | succ d ih =>
    intro i k hi hk
    obtain ⟨k, rfl⟩ : ∃ m, k = m + 1 := ⟨k - 1, by omega⟩
    simp only [impl_MeshOk.l0]
    rw [if_pos (by omega), if_pos (by omega), if_pos (by omega), impl_leads_eq, drop_rd l i (by omega)]
    simp only [Option.bind_some]
    by_cases c : leads w h (rd l (i : Int)) = true
    · rw [if_pos c]
      have e := ih (i + 1) k (by omega) (by omega)
      rw [if_neg (by omega), show i + 1 - 1 = i from by omega] at e
      by_cases z : i = 0
      · subst z
        rw [if_neg (by simp), w64s (by omega), e, if_pos rfl]
        simp only [brOk, c, Bool.true_and]
      · rw [if_pos (by omega), w64p (by omega) (by omega), if_pos (by omega), if_pos (by omega), if_neg z]
        by_cases q : rd l ((i - 1 : Nat) : Int) ≥ rd l (i : Int)
        · rw [if_pos q]
          simp only [brOk]
          rw [show decide (rd l ((i - 1 : Nat) : Int) < rd l (i : Int)) = false from decide_eq_false (by omega)]
          simp
        · rw [if_neg q, w64s (by omega), e]
          simp only [brOk]
          rw [show decide (rd l ((i - 1 : Nat) : Int) < rd l (i : Int)) = true from decide_eq_true (by omega), c]
          simp
    · rw [if_neg c]
      have c' : leads w h (rd l (i : Int)) = false := by simpa using c
      by_cases z : i = 0
      · rw [if_pos z]; simp only [brOk, c', Bool.false_and]
      · rw [if_neg z]; simp only [brOk, c', Bool.false_and]
theorem impl_MeshOk_eq (w h : Int) (l : List Int) (k : Nat) (hl : l.length ≤ 1048576) (hk : 1048577 < k) : impl_MeshOk.f k w h l = some (meshOk w h l) := by
  unfold impl_MeshOk.f
  have e := impl_MeshOk_loop w h l (by omega) l.length 0 k (by omega) (by omega)
  rw [show ((0 : Nat) : Int) = 0 from rfl] at e
  rw [e]
  simp [meshOk, Bool.and_comm]

theorem spec_MeshOk_loop (w h : Int) (l : List Int) (hn : l.length ≤ 9223372036854775806) : ∀ (d i k : Nat), i + d = l.length → d < k → spec_MeshOk.l0 k (i : Int) w h l = some (brOk w h (if i = 0 then none else some (rd l ((i - 1 : Nat) : Int))) (l.drop i)) := by
  intro d
  induction d with
  | zero =>
    intro i k hi hk
    obtain ⟨k, rfl⟩ : ∃ m, k = m + 1 := ⟨k - 1, by omega⟩
    simp only [spec_MeshOk.l0]
    rw [if_neg (by omega), List.drop_eq_nil_of_le (by omega)]
    simp [brOk]
  | succ d ih =>
    intro i k hi hk
    obtain ⟨k, rfl⟩ : ∃ m, k = m + 1 := ⟨k - 1, by omega⟩
    simp only [spec_MeshOk.l0]
    rw [if_pos (by omega), if_pos (by omega), spec_l03Leads_eq, drop_rd l i (by omega)]
    simp only [Option.bind_some]
    by_cases c : leads w h (rd l (i : Int)) = true
    · rw [if_pos c]
      have e := ih (i + 1) k (by omega) (by omega)
      rw [if_neg (by omega), show i + 1 - 1 = i from by omega] at e
      by_cases z : i = 0
      · subst z
        rw [if_neg (by simp), w64s (by omega), e, if_pos rfl]
        simp only [brOk, c, Bool.true_and]
      · rw [if_pos (by omega), w64p (by omega) (by omega), if_pos (by omega), if_pos (by omega), if_neg z]
        by_cases q : rd l (i : Int) ≤ rd l ((i - 1 : Nat) : Int)
        · rw [if_pos q]
          simp only [brOk]
          rw [show decide (rd l ((i - 1 : Nat) : Int) < rd l (i : Int)) = false from decide_eq_false (by omega)]
          simp
        · rw [if_neg q, w64s (by omega), e]
          simp only [brOk]
          rw [show decide (rd l ((i - 1 : Nat) : Int) < rd l (i : Int)) = true from decide_eq_true (by omega), c]
          simp
    · rw [if_neg c]
      have c' : leads w h (rd l (i : Int)) = false := by simpa using c
      by_cases z : i = 0
      · rw [if_pos z]; simp only [brOk, c', Bool.false_and]
      · rw [if_neg z]; simp only [brOk, c', Bool.false_and]
theorem spec_MeshOk_eq (w h : Int) (l : List Int) (k : Nat) (hl : l.length ≤ 1048576) (hk : 1048577 < k) : spec_MeshOk.f k w h l = some (meshOk w h l) := by
  unfold spec_MeshOk.f
  have e := spec_MeshOk_loop w h l (by omega) l.length 0 k (by omega) (by omega)
  rw [show ((0 : Nat) : Int) = 0 from rfl] at e
  rw [e, spec_GridOk_eq]
  simp only [Option.bind_some, if_true]
  by_cases g : gok w h = true
  · rw [if_pos g]; simp [meshOk, g]
  · rw [if_neg g]; simp [meshOk, g]

theorem l03Find_loop (l : List Int) (c : Int) (hn : l.length ≤ 9223372036854775806) : ∀ (d i k : Nat), i + d = l.length → d < k → spec_l03Find.l0 k l c (i : Int) = some (decide (c ∈ l.drop i)) := by
  intro d
  induction d with
  | zero =>
    intro i k hi hk
    obtain ⟨k, rfl⟩ : ∃ m, k = m + 1 := ⟨k - 1, by omega⟩
    simp only [spec_l03Find.l0]
    rw [if_neg (by omega), List.drop_eq_nil_of_le (by omega)]
    simp
  | succ d ih =>
    intro i k hi hk
    obtain ⟨k, rfl⟩ : ∃ m, k = m + 1 := ⟨k - 1, by omega⟩
    simp only [spec_l03Find.l0]
    rw [if_pos (by omega), if_pos (by omega), drop_rd l i (by omega)]
    by_cases q : rd l (i : Int) = c
    · rw [if_pos q]; simp [q]
    · rw [if_neg q, w64s (by omega), ih (i + 1) k (by omega) (by omega)]
      have : ¬ c = rd l (i : Int) := fun e => q e.symm
      simp [this]
theorem l03Find_eq (l : List Int) (c : Int) (k : Nat) (hl : l.length ≤ 1048576) (hk : 1048577 < k) : spec_l03Find.f k l c = some (decide (c ∈ l)) := by
  unfold spec_l03Find.f
  have e := l03Find_loop l c (by omega) l.length 0 k (by omega) (by omega)
  simpa using e

theorem slicesIndex_loop (l : List Int) (c : Int) (hn : l.length ≤ 9223372036854775806) : ∀ (d i k : Nat), i + d = l.length → d < k → ∃ r, slices_Index_int_int.l0 k l c (l.length : Int) (i : Int) = some r ∧ (0 ≤ r ↔ c ∈ l.drop i) := by
  intro d
  induction d with
  | zero =>
    intro i k hi hk
    obtain ⟨k, rfl⟩ : ∃ m, k = m + 1 := ⟨k - 1, by omega⟩
    simp only [slices_Index_int_int.l0]
    rw [if_neg (by omega), List.drop_eq_nil_of_le (by omega)]
    exact ⟨-1, rfl, by simp⟩
  | succ d ih =>
    intro i k hi hk
    obtain ⟨k, rfl⟩ : ∃ m, k = m + 1 := ⟨k - 1, by omega⟩
    simp only [slices_Index_int_int.l0]
    rw [if_pos (by omega), if_pos (by omega), if_pos (by omega), drop_rd l i (by omega)]
    by_cases q : c = rd l (i : Int)
    · rw [if_pos q]; exact ⟨_, rfl, by simp [q]⟩
    · rw [if_neg q, w64s (by omega)]
      obtain ⟨r, h1, h2⟩ := ih (i + 1) k (by omega) (by omega)
      exact ⟨r, h1, by simp [q, h2]⟩
theorem slicesContains_eq (l : List Int) (c : Int) (k : Nat) (hl : l.length ≤ 1048576) (hk : 1048577 < k) : slices_Contains_int_int.f k l c = some (decide (c ∈ l)) := by
  unfold slices_Contains_int_int.f slices_Index_int_int.f
  obtain ⟨r, h1, h2⟩ := slicesIndex_loop l c (by omega) l.length 0 k (by omega) (by omega)
  rw [show ((0 : Nat) : Int) = 0 from rfl] at h1
  rw [h1]
  simp only [Option.bind_some]
  congr 1
  simpa using h2

theorem l03Has_eq (w h : Int) (l : List Int) (c : Int) (k : Nat) (hl : l.length ≤ 1048576) (hk : 1048577 < k) : spec_l03Has.f k w h l c = some (leads w h c && !decide (c ∈ l)) := by
  unfold spec_l03Has.f
  rw [spec_l03Leads_eq, l03Find_eq l c k hl hk]
  simp only [Option.bind_some]
  by_cases q : leads w h c = true <;> simp [q]

theorem impl_HasChannel_eq (w h : Int) (l : List Int) (c : Int) (k : Nat) (hl : l.length ≤ 1048576) (hk : 1048577 < k) : impl_HasChannel.f k w h l c = some (hasC w h l c) := by
  unfold impl_HasChannel.f
  rw [impl_MeshOk_eq w h l k hl hk, impl_leads_eq, slicesContains_eq l c k hl hk]
  simp only [Option.bind_some]
  by_cases q : meshOk w h l = true
  · by_cases q2 : leads w h c = true <;> simp [q, q2, hasC]
  · simp [q, hasC]

def stdG (w h r : Int) (i : Nat) : Int := stdP w r ((i / (cnt w h).toNat : Nat) : Int) ((i % (cnt w h).toNat : Nat) : Int)
def stdT (w h r : Int) : List Int := (List.range ((cnt w h).toNat * (cnt w h).toNat)).map (stdG w h r)
theorem stdT_len (w h r : Int) : (stdT w h r).length = (cnt w h).toNat * (cnt w h).toNat := by simp [stdT]
theorem cnt_sq (w h : Int) : (cnt w h).toNat * (cnt w h).toNat ≤ 256 ∧ (((cnt w h).toNat * (cnt w h).toNat : Nat) : Int) = cnt w h * cnt w h := by
  have b := cnt_bd w h
  obtain ⟨n, hn⟩ : ∃ n : Nat, cnt w h = n := ⟨(cnt w h).toNat, by omega⟩
  rw [hn] at b ⊢
  simp only [Int.toNat_natCast]
  refine ⟨?_, by simp⟩
  have : n ≤ 16 := by omega
  exact Nat.mul_le_mul this this

theorem impl_endOf_eq (w h : Int) (l : List Int) (c : Int) (h0 : 0 ≤ c) (h1 : c ≤ 1000) : impl_endOf.f w h l c = some (nxt w h (c / 4) (c % 4)) := by
  unfold impl_endOf.f
  rw [tmod_of h0, tdiv_of h0, wrap64_id (by omega) (by omega), impl_NextNode_eq]
  rfl

/-- the nodes of a route, channel by channel -/
def rts (w h : Int) (l : List Int) : List Int → List Int → List Int
  | [], out => out
  | c :: r, out => if (hasC w h l c && (decide (out.length = 0) || decide (c / 4 = rd out ((out.length : Int) - 1)))) = true then rts w h l r ((if out.length = 0 then [c / 4] else out) ++ [nxt w h (c / 4) (c % 4)]) else []
theorem hasC_bd {w h : Int} {l : List Int} {c : Int} (q : hasC w h l c = true) : meshOk w h l = true ∧ (leads w h c && !decide (c ∈ l)) = true ∧ 0 ≤ c ∧ c < 64 := by
  unfold hasC at q
  have q2 : (leads w h c && !decide (c ∈ l)) = true := by simp only [Bool.and_eq_true] at q ⊢; exact q.2
  simp only [Bool.and_eq_true] at q
  have := leads_iff.1 q.2.1
  have := cnt_bd w h
  exact ⟨q.1, q2, by omega, by omega⟩
theorem impl_RouteNodes_loop (w h : Int) (l p : List Int) (hl : l.length ≤ 1048576) (hp : p.length ≤ 2097152) : ∀ (d i k : Nat) (out : List Int), i + d = p.length → 1048600 + 2 * d < k → (out.length = if i = 0 then 0 else i + 1) → impl_RouteNodes.l0 k out p (p.length : Int) (i : Int) w h l = some (rts w h l (p.drop i) out) := by
  intro d
  induction d with
  | zero =>
    intro i k out hi hk ho
    obtain ⟨k, rfl⟩ : ∃ m, k = m + 1 := ⟨k - 1, by omega⟩
    simp only [impl_RouteNodes.l0]
    rw [if_neg (by omega), List.drop_eq_nil_of_le (by omega)]
    rfl
  | succ d ih =>
    intro i k out hi hk ho
    obtain ⟨k, rfl⟩ : ∃ m, k = m + 1 + 1 := ⟨k - 2, by omega⟩
    simp only [impl_RouteNodes.l0]
    rw [if_pos (by omega), if_pos (by omega), if_pos (by omega), drop_rd p i (by omega), impl_HasChannel_eq w h l _ (k + 1) hl (by omega)]
    generalize hc : rd p (i : Int) = c
    simp only [Option.bind_some, rts]
    by_cases q : hasC w h l c = true
    · obtain ⟨q1, q2, q3, q4⟩ := hasC_bd q
      rw [if_pos q]
      by_cases z : i = 0
      · subst z
        rw [if_pos rfl] at ho
        have : out = [] := List.eq_nil_of_length_eq_zero ho
        subst this
        rw [if_neg (by simp)]
        simp only [impl_RouteNodes.j1]
        rw [if_neg (by simp), if_pos (by simp), if_pos (by simp), impl_endOf_eq w h l c q3 (by omega), tdiv_of q3, wrap64_id (x := c / 4) (by omega) (by omega)]
        simp only [Option.bind_some]
        rw [if_pos (by simp), w64s (by omega), ih 1 k _ (by omega) (by omega) (by simp)]
        simp [q]
      · rw [if_neg z] at ho
        rw [if_pos (by omega), if_pos (by omega), tdiv_of q3, wrap64_id (x := c / 4) (by omega) (by omega)]
        have hx : (out.length : Int) - 1 = (i : Int) := by omega
        simp only [impl_RouteNodes.j1]
        by_cases e : c / 4 = rd out (i : Int)
        · rw [if_neg (by simp [e]), if_neg (by omega), impl_endOf_eq w h l c q3 (by omega)]
          simp only [Option.bind_some]
          rw [if_pos (by omega), w64s (by omega), ih (i + 1) k _ (by omega) (by omega) (by simp; omega), hx]
          simp [q, e, show out.length ≠ 0 by omega]
        · rw [if_pos (by simpa using e), hx]
          simp [q, e, show out.length ≠ 0 by omega]
    · rw [if_neg q]
      simp only [impl_RouteNodes.j1]
      simp [q]
theorem impl_RouteNodes_eq (w h : Int) (l p : List Int) (k : Nat) (hl : l.length ≤ 1048576) (hp : p.length ≤ 2097152) (hk : 1048600 + 2 * p.length < k) : impl_RouteNodes.f k w h l p = some (rts w h l p []) := by
  unfold impl_RouteNodes.f
  have e := impl_RouteNodes_loop w h l p hl hp p.length 0 k [] (by omega) (by omega) (by simp)
  simpa using e
theorem rts_len (w h : Int) (l : List Int) : ∀ (p out : List Int), (rts w h l p out).length ≤ out.length + p.length + (if out.length = 0 then 1 else 0)
  | [], out => by simp only [rts]; omega
  | c :: r, out => by
    simp only [rts]
    split
    · have e := rts_len w h l r ((if out.length = 0 then [c / 4] else out) ++ [nxt w h (c / 4) (c % 4)])
      refine Nat.le_trans e ?_
      by_cases z : out.length = 0
      · simp [z]; omega
      · simp [z]; omega
    · simp

theorem spec_RouteNodes_loop (w h : Int) (l p : List Int) (hl : l.length ≤ 1048576) (hp : p.length ≤ 2097152) : ∀ (d i k : Nat) (out : List Int), i + d = p.length → 1048600 + 2 * d < k → (out.length = if i = 0 then 0 else i + 1) → spec_RouteNodes.l0 k p out (meshOk w h l) (i : Int) w h l = some (rts w h l (p.drop i) out) := by
  intro d
  induction d with
  | zero =>
    intro i k out hi hk ho
    obtain ⟨k, rfl⟩ : ∃ m, k = m + 1 := ⟨k - 1, by omega⟩
    simp only [spec_RouteNodes.l0]
    rw [if_neg (by omega), List.drop_eq_nil_of_le (by omega)]
    rfl
  | succ d ih =>
    intro i k out hi hk ho
    obtain ⟨k, rfl⟩ : ∃ m, k = m + 1 + 1 := ⟨k - 2, by omega⟩
    simp only [spec_RouteNodes.l0]
    rw [if_pos (by omega), if_pos (by omega), drop_rd p i (by omega), l03Has_eq w h l _ (k + 1) hl (by omega)]
    generalize hc : rd p (i : Int) = c
    simp only [Option.bind_some, rts]
    by_cases q : hasC w h l c = true
    · obtain ⟨q1, q2, q3, q4⟩ := hasC_bd q
      rw [if_pos q1, if_pos q2]
      have ih' := fun a b c => ih a b c
      rw [q1] at ih'
      rw [q1]
      by_cases z : i = 0
      · subst z
        rw [if_pos rfl] at ho
        have : out = [] := List.eq_nil_of_length_eq_zero ho
        subst this
        rw [if_neg (by simp)]
        simp only [spec_RouteNodes.j1]
        rw [if_neg (by simp), if_pos (by simp), if_pos (by simp), tmod_of q3, tdiv_of q3, wrap64_id (x := c / 4) (by omega) (by omega), spec_NextNode_eq]
        simp only [Option.bind_some]
        rw [if_pos (by simp), w64s (by omega), ih' 1 k _ (by omega) (by omega) (by simp)]
        simp [q]
      · rw [if_neg z] at ho
        rw [if_pos (by omega), if_pos (by omega), tdiv_of q3, wrap64_id (x := c / 4) (by omega) (by omega)]
        have hx : (out.length : Int) - 1 = (i : Int) := by omega
        simp only [spec_RouteNodes.j1]
        by_cases e : c / 4 = rd out (i : Int)
        · rw [if_neg (by simp [e]), if_neg (by omega), tmod_of q3, tdiv_of q3, wrap64_id (x := c / 4) (by omega) (by omega), spec_NextNode_eq]
          simp only [Option.bind_some]
          rw [if_pos (by omega), w64s (by omega), ih' (i + 1) k _ (by omega) (by omega) (by simp; omega), hx]
          simp [q, e, show out.length ≠ 0 by omega]
        · rw [if_pos (by simpa using e), hx]
          simp [q, e, show out.length ≠ 0 by omega]
    · rw [if_neg (show ¬ (hasC w h l c && _) = true by simp [q])]
      unfold hasC at q
      by_cases m : meshOk w h l = true
      · rw [if_pos m, if_neg (by simpa [m] using q)]
        simp only [spec_RouteNodes.j1]
        rfl
      · rw [if_neg m]
        simp only [spec_RouteNodes.j1]
        rfl
theorem spec_RouteNodes_eq (w h : Int) (l p : List Int) (k : Nat) (hl : l.length ≤ 1048576) (hp : p.length ≤ 2097152) (hk : 1048600 + 2 * p.length < k) : spec_RouteNodes.f k w h l p = some (rts w h l p []) := by
  unfold spec_RouteNodes.f
  rw [spec_MeshOk_eq w h l k hl (by omega)]
  have e := spec_RouteNodes_loop w h l p hl hp p.length 0 k [] (by omega) (by omega) (by simp)
  simpa using e

theorem impl_IsRoute_eq (w h : Int) (l p : List Int) (k : Nat) (hl : l.length ≤ 1048576) (hp : p.length ≤ 2097152) (hk : 1048600 + 2 * p.length < k) : impl_IsRoute.f k w h l p = some (decide (((rts w h l p []).length : Int) > 0)) := by
  unfold impl_IsRoute.f
  rw [impl_RouteNodes_eq w h l p k hl (by omega) (by omega)]
  rfl

theorem spec_IsRoute_eq (w h : Int) (l p : List Int) (k : Nat) (hl : l.length ≤ 1048576) (hp : p.length ≤ 2097152) (hk : 1048600 + 2 * p.length < k) : spec_IsRoute.f k w h l p = some (decide (((rts w h l p []).length : Int) > 0)) := by
  unfold spec_IsRoute.f
  rw [spec_RouteNodes_eq w h l p k hl (by omega) (by omega)]
  rfl

theorem eqIntS_big (a : List Int) (k : Nat) (ha : a.length ≤ 2100000) (hk : 2100001 < k) : laws_eqIntS.f k a a = some true := by
  unfold laws_eqIntS.f
  rw [if_pos rfl]
  have h := eqIntS_loop a a (by omega) (by omega) a.length 0 k (by omega) (by omega)
  simpa using h

theorem mark_held3 (l : List Int) (k : Nat) (hl : l.length ≤ 2100000) (hk : 2100001 < k) : ∃ r, laws_markIntS.f k l 1 = some (1 + (l.length : Int), r) ∧ ∀ k', 2100001 < k' → laws_heldIntS.f k' r 1 = some (1 + (l.length : Int)) := by
  refine ⟨(List.range l.length).map fun j => ((1 + j : Nat) : Int), ?_, fun k' hk' => ?_⟩
  · have h := markIntS_eq l 1 k (by omega) (by omega)
    rw [show ((1 : Nat) : Int) = 1 from rfl] at h
    rw [h, show ((1 + l.length : Nat) : Int) = 1 + (l.length : Int) by omega]
  · have h := heldIntS_eq l.length 1 k' (by omega) (by omega)
    rw [show ((1 : Nat) : Int) = 1 from rfl] at h
    rw [h, show ((1 + l.length : Nat) : Int) = 1 + (l.length : Int) by omega]


def joinR (w h : Int) (l a b : List Int) : List Int × Bool := if decide (((rts w h l (a ++ b) []).length : Int) > 0) = true then (a ++ b, true) else ([], false)
theorem joinR_len (w h : Int) (l a b : List Int) : (joinR w h l a b).1.length ≤ a.length + b.length := by
  unfold joinR
  split
  · simp
  · simp
theorem impl_JoinRoutes_eq (w h : Int) (l a b : List Int) (k : Nat) (hl : l.length ≤ 1048576) (ha : a.length ≤ 1048576) (hb : b.length ≤ 1048576) (hk : 1048600 + 2 * (a.length + b.length) < k) : impl_JoinRoutes.f k w h l a b = some (joinR w h l a b) := by
  unfold impl_JoinRoutes.f joinR
  rw [if_pos (by omega), impl_IsRoute_eq w h l (a ++ b) k hl (by simp; omega) (by simp; omega)]
  simp only [Option.bind_some]
  split <;> rfl

theorem spec_JoinRoutes_eq (w h : Int) (l a b : List Int) (k : Nat) (hl : l.length ≤ 1048576) (ha : a.length ≤ 1048576) (hb : b.length ≤ 1048576) (hk : 1048600 + 2 * (a.length + b.length) < k) : spec_JoinRoutes.f k w h l a b = some (joinR w h l a b) := by
  unfold spec_JoinRoutes.f joinR
  simp only [Option.bind_some, List.nil_append]
  rw [if_pos (by simp; omega), if_pos (by omega), spec_IsRoute_eq w h l (a ++ b) k hl (by simp; omega) (by simp; omega)]
  simp only [Option.bind_some]
  split <;> rfl

theorem FnExactJoinRoutes : laws_FnExactJoinRoutes.Pure := by
  intro w h l p q
  intros
  rename_i hyps
  obtain ⟨k, hk⟩ : ∃ k : Nat, 9000000 ≤ k := ⟨_, Nat.le_refl _⟩
  refine ⟨k + 3, ?_⟩
  unfold laws_FnExactJoinRoutes.f
  by_cases cp : (p.length : Int) > 1048576
  · rw [if_pos cp]
  rw [if_neg cp]
  by_cases cq : (q.length : Int) > 1048576
  · rw [if_pos cq]
  rw [if_neg cq, szMesh_eq w h l 1048576 (by omega) (by assumption)]
  simp only [Option.bind_some]
  by_cases c : (l.length : Int) ≤ 1048576
  · have hs := joinR_len w h l p q
    rw [if_pos c, if_neg (by omega)]
    obtain ⟨r, m1⟩ := mark_any l 1 (k + 2) (by omega) (by omega) (by omega)
    rw [show ((1 : Nat) : Int) = 1 from rfl] at m1
    have m1' : laws_markMesh.f (k + 2) w h l 1 = some (((1 + l.length : Nat) : Int), r) := by unfold laws_markMesh.f; rw [m1]; rfl
    obtain ⟨r3, m4⟩ := mark_any p (1 + l.length) (k + 2) (by omega) (by omega) (by omega)
    obtain ⟨r4, m5⟩ := mark_any q (1 + l.length + p.length) (k + 2) (by omega) (by omega) (by omega)
    obtain ⟨r2, m2, m3⟩ := mark_held3 (joinR w h l p q).1 (k + 1) (by omega) (by omega)
    simp only [toMesh_eq w h l (k + 3) (by omega) (by omega), toIntS_eq p (k + 3) (by omega) (by omega), toIntS_eq q (k + 3) (by omega) (by omega), spec_JoinRoutes_eq w h l p q (k + 3) (by omega) (by omega) (by omega) (by omega), impl_JoinRoutes_eq w h l p q (k + 3) (by omega) (by omega) (by omega) (by omega), eqIntS_big (joinR w h l p q).1 (k + 3) (by omega) (by omega), Option.bind_some, if_true]
    simp only [laws_FnExactJoinRoutes.j0, toMesh_eq w h l (k + 2) (by omega) (by omega), toIntS_eq p (k + 2) (by omega) (by omega), toIntS_eq q (k + 2) (by omega) (by omega), eqMesh_self w h l (k + 2) (by omega) (by omega), eqIntS_self p (k + 2) (by omega) (by omega), eqIntS_self q (k + 2) (by omega) (by omega), eqIntS_big (joinR w h l p q).1 (k + 2) (by omega) (by omega), m1', m4, m5, Option.bind_some, if_true]
    rw [if_neg (by simp), if_neg (by omega)]
    simp only [laws_FnExactJoinRoutes.j1, m2, m3 (k + 1) (by omega), toMesh_eq w h l (k + 1) (by omega) (by omega), toIntS_eq p (k + 1) (by omega) (by omega), toIntS_eq q (k + 1) (by omega) (by omega), impl_JoinRoutes_eq w h l p q (k + 1) (by omega) (by omega) (by omega) (by omega), eqIntS_big (joinR w h l p q).1 (k + 1) (by omega) (by omega), Option.bind_some, if_true]
    rw [if_neg (by simp), if_neg (by omega)]
    simp only [laws_FnExactJoinRoutes.j2, m3 k (by omega), Option.bind_some, if_true]
    rw [if_neg (by simp), if_neg (by omega)]
  · rw [if_neg c, if_pos (by omega)]

end Go.Proofs.Ytmfkgnfjjfnfmaa.Pure
