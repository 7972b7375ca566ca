/- What is proved: the statement FnExactDependsOf, in its pure form, over numbers and lists: the program's and the reference's DependsOf agree for all arguments, the arguments stay, and the result is the caller's own (no conditions). -/
import Derived.Test.YtmfkgnfjjfnfmaaXD10
import Derived.Test.YtmfkgnfjjfnfmaaModel
set_option linter.unusedVariables false
set_option linter.unusedSimpArgs false
namespace Go.Proofs.Ytmfkgnfjjfnfmaa.Pure
open Go.RowKit Go.Proofs.Ytmfkgnfjjfnfmaa.XD Go.Proofs.Ytmfkgnfjjfnfmaa.M Go.Proofs.YtmfkgnfjjfnfmaaW.PrintWords Go.Proofs.YtmfkgnfjjfnfmaaW.PrintLast
theorem rd_nat (l : List Int) (i : Nat) (h : i < l.length) : rd l (i : Int) = l[i] := by unfold rd; simp [h]
theorem drop_rd (l : List Int) (i : Nat) (h : i < l.length) : l.drop i = rd l (i : Int) :: l.drop (i + 1) := by
 rw [rd_nat l i h]; exact List.drop_eq_getElem_cons h
theorem w64s {i : Nat} (h : i ≤ 9223372036854775806) : wrap64 ((i : Int) + 1) = ((i + 1 : Nat) : Int) := by rw [wrap64_id (by omega) (by omega)]; omega
theorem w64p {i : Nat} (h : i ≤ 9223372036854775806) (h0 : 0 < i) : wrap64 ((i : Int) - 1) = ((i - 1 : Nat) : Int) := by rw [wrap64_id (by omega) (by omega)]; omega

theorem impl_inside_eq (a b c : Int) : impl_inside.f a b c = some (inR a b c) := by
 unfold impl_inside.f inR
 by_cases h : b ≤ a <;> simp [h]

theorem impl_GridOk_eq (w h : Int) : impl_GridOk.f w h = some (gok w h) := by
 unfold impl_GridOk.f gok
 simp only [impl_inside_eq, Option.bind_some]
 cases inR w 1 4 <;> rfl

theorem impl_NodeCount_eq (w h : Int) : impl_NodeCount.f w h = some (cnt w h) := by
 unfold impl_NodeCount.f
 simp only [impl_GridOk_eq, Option.bind_some]
 by_cases g : gok w h = true
 ·have b := cnt_bd w h
  rw [if_pos g, cnt_ok g]
  rw [cnt_ok g] at b
  rw [wrap64_id (by omega) (by omega)]
 ·rw [if_neg g, cnt_no (by simpa using g)]

theorem impl_isNode_eq (w h n : Int) : impl_isNode.f w h n = some (nd w h n) := by
 have b := cnt_bd w h
 unfold impl_isNode.f nd
 simp only [impl_NodeCount_eq, impl_inside_eq, Option.bind_some]
 rw [wrap64_id (by omega) (by omega)]

theorem impl_NodeAt_eq (w h x y : Int) : impl_NodeAt.f w h x y = some (natx w h x y) := by
 unfold impl_NodeAt.f natx
 simp only [impl_GridOk_eq, impl_inside_eq, Option.bind_some]
 by_cases g : gok w h = true
 ·have b := gok_iff.1 g
  rw [if_pos g, wrap64_id (x := w - 1) (by omega) (by omega), wrap64_id (x := h - 1) (by omega) (by omega)]
  by_cases hx : inR x 0 (w - 1) = true
  ·rw [if_pos hx]
   by_cases hy : inR y 0 (h - 1) = true
   ·rw [if_pos hy, if_pos (by simp [g, hx, hy])]
    rw [inR_iff] at hx hy
    have e : wrap64 (y * w) = y * w := by rcases w4 g with rfl | rfl | rfl | rfl <;> exact wrap64_id (by omega) (by omega)
    have e2 : wrap64 (y * w + x) = y * w + x := by rcases w4 g with rfl | rfl | rfl | rfl <;> exact wrap64_id (by omega) (by omega)
    rw [e, e2]
   ·rw [if_neg hy, if_neg (by simp [hy])]
  ·rw [if_neg hx, if_neg (by simp [hx])]
 ·rw [if_neg g, if_neg (by simp [g])]

theorem impl_NextNode_eq (w h n p : Int) : impl_NextNode.f w h n p = some (nxt w h n p) := by
 unfold impl_NextNode.f nxt
 simp only [impl_isNode_eq, Option.bind_some]
 by_cases d : nd w h n = true
 ·have b := nd_bd d
  rw [if_pos d, if_pos d, if_neg (by omega)]
  simp only [impl_NodeAt_eq, Option.bind_some, tmod_of (show 0 ≤ n by omega), tdiv_of (show 0 ≤ n by omega)]
  rw [wrap64_id (x := n / w) (by omega) (by omega), wrap64_id (x := n / w - 1) (by omega) (by omega), wrap64_id (x := n / w + 1) (by omega) (by omega), wrap64_id (x := n % w + 1) (by omega) (by omega), wrap64_id (x := n % w - 1) (by omega) (by omega)]
  repeat' split
  all_goals rfl
 ·rw [if_neg d, if_neg d]

theorem impl_leads_eq (w h c : Int) : impl_leads.f w h c = some (leads w h c) := by
 have b := cnt_bd w h
 unfold impl_leads.f leads
 simp only [impl_NodeCount_eq, impl_inside_eq, Option.bind_some, impl_NextNode_eq]
 rw [wrap64_id (x := 4 * cnt w h) (by omega) (by omega), wrap64_id (by omega) (by omega)]
 by_cases r : inR c 0 (4 * cnt w h - 1) = true
 ·have b := inR_iff.1 r
  rw [if_pos r, tdiv_of (by omega), wrap64_id (by omega) (by omega), tmod_of (by omega), r]
  rfl
 ·rw [if_neg r]
  simp [r]

theorem spec_l01In_eq (a b c : Int) : spec_l01In.f a b c = some (inR a b c) := by
 unfold spec_l01In.f inR
 by_cases h : b ≤ a <;> simp [h]

theorem spec_GridOk_eq (w h : Int) : spec_GridOk.f w h = some (gok w h) := by
 unfold spec_GridOk.f gok
 simp only [spec_l01In_eq, Option.bind_some]
 cases inR w 1 4 <;> rfl

theorem spec_NodeCount_eq (w h : Int) : spec_NodeCount.f w h = some (cnt w h) := by
 unfold spec_NodeCount.f
 simp only [spec_GridOk_eq, Option.bind_some]
 by_cases g : gok w h = true
 ·have b := cnt_bd w h
  rw [if_pos g, cnt_ok g]
  rw [cnt_ok g] at b
  rw [wrap64_id (by omega) (by omega)]
 ·rw [if_neg g, cnt_no (by simpa using g)]

theorem spec_l02Has_eq (w h n : Int) : spec_l02Has.f w h n = some (nd w h n) := by
 have b := cnt_bd w h
 unfold spec_l02Has.f nd
 simp only [spec_NodeCount_eq, spec_l01In_eq, Option.bind_some]
 rw [wrap64_id (by omega) (by omega)]

theorem spec_NodeAt_eq (w h x y : Int) : spec_NodeAt.f w h x y = some (natx w h x y) := by
 unfold spec_NodeAt.f natx
 simp only [spec_GridOk_eq, spec_l01In_eq, Option.bind_some]
 by_cases g : gok w h = true
 ·have b := gok_iff.1 g
  rw [if_pos g, wrap64_id (x := w - 1) (by omega) (by omega), wrap64_id (x := h - 1) (by omega) (by omega)]
  by_cases hx : inR x 0 (w - 1) = true
  ·rw [if_pos hx]
   by_cases hy : inR y 0 (h - 1) = true
   ·rw [if_pos hy, if_pos (by simp [g, hx, hy])]
    rw [inR_iff] at hx hy
    have e : wrap64 (y * w) = y * w := by rcases w4 g with rfl | rfl | rfl | rfl <;> exact wrap64_id (by omega) (by omega)
    have e2 : wrap64 (y * w + x) = y * w + x := by rcases w4 g with rfl | rfl | rfl | rfl <;> exact wrap64_id (by omega) (by omega)
    rw [e, e2]
   ·rw [if_neg hy, if_neg (by simp [hy])]
  ·rw [if_neg hx, if_neg (by simp [hx])]
 ·rw [if_neg g, if_neg (by simp [g])]

theorem spec_NextNode_eq (w h n p : Int) : spec_NextNode.f w h n p = some (nxt w h n p) := by
 unfold spec_NextNode.f nxt
 simp only [spec_l02Has_eq, Option.bind_some]
 by_cases d : nd w h n = true
 ·have b := nd_bd d
  rw [if_pos d, if_pos d, if_neg (by omega)]
  simp only [spec_NodeAt_eq, Option.bind_some, tmod_of (show 0 ≤ n by omega), tdiv_of (show 0 ≤ n by omega)]
  rw [wrap64_id (x := n / w) (by omega) (by omega), wrap64_id (x := n / w - 1) (by omega) (by omega), wrap64_id (x := n / w + 1) (by omega) (by omega), wrap64_id (x := n % w + 1) (by omega) (by omega), wrap64_id (x := n % w - 1) (by omega) (by omega)]
  repeat' split
  all_goals rfl
 ·rw [if_neg d, if_neg d]

theorem spec_l03Leads_eq (w h c : Int) : spec_l03Leads.f w h c = some (leads w h c) := by
 have b := cnt_bd w h
 unfold spec_l03Leads.f leads
 simp only [spec_NodeCount_eq, spec_l01In_eq, Option.bind_some, spec_NextNode_eq]
 rw [wrap64_id (x := 4 * cnt w h) (by omega) (by omega), wrap64_id (by omega) (by omega)]
 by_cases r : inR c 0 (4 * cnt w h - 1) = true
 ·have b := inR_iff.1 r
  rw [if_pos r, tdiv_of (by omega), wrap64_id (by omega) (by omega), tmod_of (by omega), r]
  rfl
 ·rw [if_neg r]
  simp [r]

theorem laws_toGrid_eq (w h : Int) : laws_toGrid.f w h = some (w, h) := rfl

theorem toIntS_loop (x0 : List Int) (hn : x0.length ≤ 9223372036854775806) : ∀ (d i k : Nat) (x3 : List Int), i + d = x0.length → d < k → x3.length = x0.length → (∀ j, j < i → x3[j]? = x0[j]?) → laws_toIntS.l0 k x0 x3 (i : Int) = some x0 := by
 intro d
 induction d with
 | zero =>
  intro i k x3 hi hk hl hx
  obtain ⟨k, rfl⟩ : ∃ m, k = m + 1 := ⟨k - 1, by omega⟩
  simp only [laws_toIntS.l0]
  rw [if_neg (by omega)]
  congr 1
  apply List.ext_getElem?
  intro j
  by_cases hj : j < x0.length
  ·exact hx j (by omega)
  ·rw [List.getElem?_eq_none (by omega), List.getElem?_eq_none (by omega)]
 | succ d ih =>
  intro i k x3 hi hk hl hx
  obtain ⟨k, rfl⟩ : ∃ m, k = m + 1 := ⟨k - 1, by omega⟩
  simp only [laws_toIntS.l0]
  rw [if_pos (by omega), if_pos (by omega), if_pos (by omega), w64s (by omega)]
  refine ih (i + 1) k _ (by omega) (by omega) (by simpa using hl) fun j hj => ?_
  have e : ((i : Int)).toNat = i := by simp
  rw [e, List.getElem?_set]
  by_cases c : i = j
  ·subst c; rw [if_pos rfl, if_pos (by omega), rd_nat _ _ (by omega), List.getElem?_eq_getElem (by omega)]
  ·rw [if_neg c]; exact hx j (by omega)
theorem toIntS_eq (l : List Int) (k : Nat) (hl : l.length ≤ 1048576) (hk : 1048577 < k) : laws_toIntS.f k l = some l := by
 unfold laws_toIntS.f
 rw [if_pos (by omega), if_pos (by simp; omega)]
 exact toIntS_loop l (by omega) l.length 0 k _ (by omega) (by omega) (by simp) (by simp)

theorem eqIntS_loop (a b : List Int) (hl : a.length = b.length) (hn : a.length ≤ 9223372036854775806) : ∀ (d i k : Nat), i + d = a.length → d < k → laws_eqIntS.l0 k a b (i : Int) = some (decide (a.drop i = b.drop i)) := by
 intro d
 induction d with
 | zero =>
  intro i k hi hk
  obtain ⟨k, rfl⟩ : ∃ m, k = m + 1 := ⟨k - 1, by omega⟩
  simp only [laws_eqIntS.l0]
  rw [if_neg (by omega), List.drop_eq_nil_of_le (by omega), List.drop_eq_nil_of_le (by omega)]
  simp
 | succ d ih =>
  intro i k hi hk
  obtain ⟨k, rfl⟩ : ∃ m, k = m + 1 := ⟨k - 1, by omega⟩
  simp only [laws_eqIntS.l0]
  rw [if_pos (by omega), if_pos (by omega), if_pos (by omega), drop_rd a i (by omega), drop_rd b i (by omega)]
  by_cases c : rd a (i : Int) = rd b (i : Int)
  ·rw [if_pos c, w64s (by omega), ih (i + 1) k (by omega) (by omega)]
   simp [c]
  ·rw [if_neg c]; simp [c]
theorem eqIntS_eq (a b : List Int) (k : Nat) (ha : a.length ≤ 1048576) (hk : 1048577 < k) : laws_eqIntS.f k a b = some (decide (a = b)) := by
 unfold laws_eqIntS.f
 by_cases c : (a.length : Int) = (b.length : Int)
 ·rw [if_pos c]
  have h := eqIntS_loop a b (by omega) (by omega) a.length 0 k (by omega) (by omega)
  simpa using h
 ·rw [if_neg c]
  have : a ≠ b := fun e => c (by rw [e])
  simp [this]
theorem eqIntS_self (a : List Int) (k : Nat) (ha : a.length ≤ 1048576) (hk : 1048577 < k) : laws_eqIntS.f k a a = some true := by rw [eqIntS_eq a a k ha hk]; simp

theorem markIntS_loop (n m0 : Nat) (hn : n + m0 ≤ 4000000000) : ∀ (d i k : Nat) (x : List Int), i + d = n → d < k → x.length = n → (∀ j, j < i → x[j]? = some ((m0 + j : Nat) : Int)) → laws_markIntS.l0 k x ((m0 + i : Nat) : Int) (i : Int) = some (((m0 + n : Nat) : Int), (List.range n).map fun j => ((m0 + j : Nat) : Int)) := by
 intro d
 induction d with
 | zero =>
  intro i k x hi hk hl hx
  obtain ⟨k, rfl⟩ : ∃ m, k = m + 1 := ⟨k - 1, by omega⟩
  simp only [laws_markIntS.l0]
  rw [if_neg (by omega)]
  have e : x = (List.range n).map fun j => ((m0 + j : Nat) : Int) := by
   apply List.ext_getElem?
   intro j
   by_cases hj : j < n
   ·rw [hx j (by omega)]; simp [hj]
   ·rw [List.getElem?_eq_none (by omega), List.getElem?_eq_none (by simp; omega)]
  obtain rfl : i = n := by omega
  rw [← e]
 | succ d ih =>
  intro i k x hi hk hl hx
  obtain ⟨k, rfl⟩ : ∃ m, k = m + 1 := ⟨k - 1, by omega⟩
  simp only [laws_markIntS.l0]
  rw [if_pos (by omega), if_pos (by omega), w64s (by omega), w64s (by omega)]
  have e2 : m0 + i + 1 = m0 + (i + 1) := by omega
  rw [e2]
  refine ih (i + 1) k _ (by omega) (by omega) (by simpa using hl) fun j hj => ?_
  have e : ((i : Int)).toNat = i := by simp
  rw [e, List.getElem?_set]
  by_cases c : i = j
  ·subst c; rw [if_pos rfl, if_pos (by omega)]
  ·rw [if_neg c]; exact hx j (by omega)
theorem markIntS_eq (l : List Int) (m0 k : Nat) (hl : l.length + m0 ≤ 4000000000) (hk : l.length < k) : laws_markIntS.f k l (m0 : Int) = some (((m0 + l.length : Nat) : Int), (List.range l.length).map fun j => ((m0 + j : Nat) : Int)) := by
 unfold laws_markIntS.f
 have h := markIntS_loop l.length m0 (by omega) l.length 0 k l (by omega) (by omega) rfl (by simp)
 simpa using h

theorem szIntS_eq (l : List Int) (a : Int) (h : 0 ≤ a ∧ a ≤ 1048576) (hl : l.length ≤ maxLen) : laws_szIntS.f l a = some (if (l.length : Int) ≤ a then a - l.length else -1) := by
 unfold maxLen at hl
 unfold laws_szIntS.f
 rw [wrap64_id (by omega) (by omega)]
 by_cases c : (l.length : Int) ≤ a
 ·rw [if_neg (by omega), if_pos c]
 ·rw [if_pos (by omega), if_neg c]

theorem szMesh_eq (w h : Int) (l : List Int) (a : Int) (ha : 0 ≤ a ∧ a ≤ 1048576) (hl : l.length ≤ maxLen) : laws_szMesh.f w h l a = some (if (l.length : Int) ≤ a then a - l.length else -1) := by
 unfold laws_szMesh.f
 rw [szIntS_eq l a ha hl]
 simp only [Option.bind_some]
 by_cases c : (l.length : Int) ≤ a
 ·rw [if_pos c, if_neg (by omega)]
 ·rw [if_neg c, if_pos (by omega)]

theorem szTable_eq (l : List Int) (a : Int) (ha : 0 ≤ a ∧ a ≤ 1048576) (hl : l.length ≤ maxLen) : laws_szTable.f l a = some (if (l.length : Int) ≤ a then a - l.length else -1) := by
 unfold laws_szTable.f
 rw [szIntS_eq l a ha hl]
 simp only [Option.bind_some]
 by_cases c : (l.length : Int) ≤ a
 ·rw [if_pos c, if_neg (by omega)]
 ·rw [if_neg c, if_pos (by omega)]

theorem toMesh_eq (w h : Int) (l : List Int) (k : Nat) (hl : l.length ≤ 1048576) (hk : 1048577 < k) : laws_toMesh.f k w h l = some (w, h, l) := by
 unfold laws_toMesh.f
 rw [laws_toGrid_eq, toIntS_eq l k hl hk]
 rfl

theorem toTable_eq (l : List Int) (k : Nat) (hl : l.length ≤ 1048576) (hk : 1048577 < k) : laws_toTable.f k l = some l := by
 unfold laws_toTable.f
 rw [toIntS_eq l k hl hk]
 rfl

theorem eqMesh_self (w h : Int) (l : List Int) (k : Nat) (hl : l.length ≤ 1048576) (hk : 1048577 < k) : laws_eqMesh.f k w h l w h l = some true := by
 unfold laws_eqMesh.f laws_eqGrid.f
 rw [eqIntS_self l k hl hk]
 simp

theorem eqTable_eq (a b : List Int) (k : Nat) (hl : a.length ≤ 1048576) (hk : 1048577 < k) : laws_eqTable.f k a b = some (decide (a = b)) := by
 unfold laws_eqTable.f
 rw [eqIntS_eq a b k hl hk]
 by_cases c : a = b <;> simp [c]
theorem eqTable_self (l : List Int) (k : Nat) (hl : l.length ≤ 1048576) (hk : 1048577 < k) : laws_eqTable.f k l l = some true := by rw [eqTable_eq l l k hl hk]; simp

theorem impl_MeshOk_loop (w h : Int) (l : List Int) (hn : l.length ≤ 9223372036854775806) : ∀ (d i k : Nat), i + d = l.length → d < k → impl_MeshOk.l0 k l (l.length : Int) (i : Int) w h l = some (brOk w h (if i = 0 then none else some (rd l ((i - 1 : Nat) : Int))) (l.drop i) && gok w h) := by
 intro d
 induction d with
 | zero =>
  intro i k hi hk
  obtain ⟨k, rfl⟩ : ∃ m, k = m + 1 := ⟨k - 1, by omega⟩
  simp only [impl_MeshOk.l0]
  rw [if_neg (by omega), impl_GridOk_eq, List.drop_eq_nil_of_le (by omega)]
  simp [brOk]
 | succ d ih =>
  intro i k hi hk
  obtain ⟨k, rfl⟩ : ∃ m, k = m + 1 := ⟨k - 1, by omega⟩
  simp only [impl_MeshOk.l0]
  rw [if_pos (by omega), if_pos (by omega), if_pos (by omega), impl_leads_eq, drop_rd l i (by omega)]
  simp only [Option.bind_some]
  by_cases c : leads w h (rd l (i : Int)) = true
  ·rw [if_pos c]
   have e := ih (i + 1) k (by omega) (by omega)
   rw [if_neg (by omega), show i + 1 - 1 = i from by omega] at e
   by_cases z : i = 0
   ·subst z
    rw [if_neg (by simp), w64s (by omega), e, if_pos rfl]
    simp only [brOk, c, Bool.true_and]
   ·rw [if_pos (by omega), w64p (by omega) (by omega), if_pos (by omega), if_pos (by omega), if_neg z]
    by_cases q : rd l ((i - 1 : Nat) : Int) ≥ rd l (i : Int)
    ·rw [if_pos q]
     simp only [brOk]
     rw [show decide (rd l ((i - 1 : Nat) : Int) < rd l (i : Int)) = false from decide_eq_false (by omega)]
     simp
    ·rw [if_neg q, w64s (by omega), e]
     simp only [brOk]
     rw [show decide (rd l ((i - 1 : Nat) : Int) < rd l (i : Int)) = true from decide_eq_true (by omega), c]
     simp
  ·rw [if_neg c]
   have c' : leads w h (rd l (i : Int)) = false := by simpa using c
   by_cases z : i = 0
   ·rw [if_pos z]; simp only [brOk, c', Bool.false_and]
   ·rw [if_neg z]; simp only [brOk, c', Bool.false_and]
theorem impl_MeshOk_eq (w h : Int) (l : List Int) (k : Nat) (hl : l.length ≤ 1048576) (hk : 1048577 < k) : impl_MeshOk.f k w h l = some (meshOk w h l) := by
 unfold impl_MeshOk.f
 have e := impl_MeshOk_loop w h l (by omega) l.length 0 k (by omega) (by omega)
 rw [show ((0 : Nat) : Int) = 0 from rfl] at e
 rw [e]
 simp [meshOk, Bool.and_comm]

theorem spec_MeshOk_loop (w h : Int) (l : List Int) (hn : l.length ≤ 9223372036854775806) : ∀ (d i k : Nat), i + d = l.length → d < k → spec_MeshOk.l0 k (i : Int) w h l = some (brOk w h (if i = 0 then none else some (rd l ((i - 1 : Nat) : Int))) (l.drop i)) := by
 intro d
 induction d with
 | zero =>
  intro i k hi hk
  obtain ⟨k, rfl⟩ : ∃ m, k = m + 1 := ⟨k - 1, by omega⟩
  simp only [spec_MeshOk.l0]
  rw [if_neg (by omega), List.drop_eq_nil_of_le (by omega)]
  simp [brOk]
 | succ d ih =>
  intro i k hi hk
  obtain ⟨k, rfl⟩ : ∃ m, k = m + 1 := ⟨k - 1, by omega⟩
  simp only [spec_MeshOk.l0]
  rw [if_pos (by omega), if_pos (by omega), spec_l03Leads_eq, drop_rd l i (by omega)]
  simp only [Option.bind_some]
  by_cases c : leads w h (rd l (i : Int)) = true
  ·rw [if_pos c]
   have e := ih (i + 1) k (by omega) (by omega)
   rw [if_neg (by omega), show i + 1 - 1 = i from by omega] at e
   by_cases z : i = 0
   ·subst z
    rw [if_neg (by simp), w64s (by omega), e, if_pos rfl]
    simp only [brOk, c, Bool.true_and]
   ·rw [if_pos (by omega), w64p (by omega) (by omega), if_pos (by omega), if_pos (by omega), if_neg z]
    by_cases q : rd l (i : Int) ≤ rd l ((i - 1 : Nat) : Int)
    ·rw [if_pos q]
     simp only [brOk]
     rw [show decide (rd l ((i - 1 : Nat) : Int) < rd l (i : Int)) = false from decide_eq_false (by omega)]
     simp
    ·rw [if_neg q, w64s (by omega), e]
     simp only [brOk]
     rw [show decide (rd l ((i - 1 : Nat) : Int) < rd l (i : Int)) = true from decide_eq_true (by omega), c]
     simp
  ·rw [if_neg c]
   have c' : leads w h (rd l (i : Int)) = false := by simpa using c
   by_cases z : i = 0
   ·rw [if_pos z]; simp only [brOk, c', Bool.false_and]
   ·rw [if_neg z]; simp only [brOk, c', Bool.false_and]
theorem spec_MeshOk_eq (w h : Int) (l : List Int) (k : Nat) (hl : l.length ≤ 1048576) (hk : 1048577 < k) : spec_MeshOk.f k w h l = some (meshOk w h l) := by
 unfold spec_MeshOk.f
 have e := spec_MeshOk_loop w h l (by omega) l.length 0 k (by omega) (by omega)
 rw [show ((0 : Nat) : Int) = 0 from rfl] at e
 rw [e, spec_GridOk_eq]
 simp only [Option.bind_some, if_true]
 by_cases g : gok w h = true
 ·rw [if_pos g]; simp [meshOk, g]
 ·rw [if_neg g]; simp [meshOk, g]

theorem l03Find_loop (l : List Int) (c : Int) (hn : l.length ≤ 9223372036854775806) : ∀ (d i k : Nat), i + d = l.length → d < k → spec_l03Find.l0 k l c (i : Int) = some (decide (c ∈ l.drop i)) := by
 intro d
 induction d with
 | zero =>
  intro i k hi hk
  obtain ⟨k, rfl⟩ : ∃ m, k = m + 1 := ⟨k - 1, by omega⟩
  simp only [spec_l03Find.l0]
  rw [if_neg (by omega), List.drop_eq_nil_of_le (by omega)]
  simp
 | succ d ih =>
  intro i k hi hk
  obtain ⟨k, rfl⟩ : ∃ m, k = m + 1 := ⟨k - 1, by omega⟩
  simp only [spec_l03Find.l0]
  rw [if_pos (by omega), if_pos (by omega), drop_rd l i (by omega)]
  by_cases q : rd l (i : Int) = c
  ·rw [if_pos q]; simp [q]
  ·rw [if_neg q, w64s (by omega), ih (i + 1) k (by omega) (by omega)]
   have : ¬ c = rd l (i : Int) := fun e => q e.symm
   simp [this]
theorem l03Find_eq (l : List Int) (c : Int) (k : Nat) (hl : l.length ≤ 1048576) (hk : 1048577 < k) : spec_l03Find.f k l c = some (decide (c ∈ l)) := by
 unfold spec_l03Find.f
 have e := l03Find_loop l c (by omega) l.length 0 k (by omega) (by omega)
 simpa using e

theorem slicesIndex_loop (l : List Int) (c : Int) (hn : l.length ≤ 9223372036854775806) : ∀ (d i k : Nat), i + d = l.length → d < k → ∃ r, slices_Index_int_int.l0 k l c (l.length : Int) (i : Int) = some r ∧ (0 ≤ r ↔ c ∈ l.drop i) := by
 intro d
 induction d with
 | zero =>
  intro i k hi hk
  obtain ⟨k, rfl⟩ : ∃ m, k = m + 1 := ⟨k - 1, by omega⟩
  simp only [slices_Index_int_int.l0]
  rw [if_neg (by omega), List.drop_eq_nil_of_le (by omega)]
  exact ⟨-1, rfl, by simp⟩
 | succ d ih =>
  intro i k hi hk
  obtain ⟨k, rfl⟩ : ∃ m, k = m + 1 := ⟨k - 1, by omega⟩
  simp only [slices_Index_int_int.l0]
  rw [if_pos (by omega), if_pos (by omega), if_pos (by omega), drop_rd l i (by omega)]
  by_cases q : c = rd l (i : Int)
  ·rw [if_pos q]; exact ⟨_, rfl, by simp [q]⟩
  ·rw [if_neg q, w64s (by omega)]
   obtain ⟨r, h1, h2⟩ := ih (i + 1) k (by omega) (by omega)
   exact ⟨r, h1, by simp [q, h2]⟩
theorem slicesContains_eq (l : List Int) (c : Int) (k : Nat) (hl : l.length ≤ 1048576) (hk : 1048577 < k) : slices_Contains_int_int.f k l c = some (decide (c ∈ l)) := by
 unfold slices_Contains_int_int.f slices_Index_int_int.f
 obtain ⟨r, h1, h2⟩ := slicesIndex_loop l c (by omega) l.length 0 k (by omega) (by omega)
 rw [show ((0 : Nat) : Int) = 0 from rfl] at h1
 rw [h1]
 simp only [Option.bind_some]
 congr 1
 simpa using h2

theorem l03Has_eq (w h : Int) (l : List Int) (c : Int) (k : Nat) (hl : l.length ≤ 1048576) (hk : 1048577 < k) : spec_l03Has.f k w h l c = some (leads w h c && !decide (c ∈ l)) := by
 unfold spec_l03Has.f
 rw [spec_l03Leads_eq, l03Find_eq l c k hl hk]
 simp only [Option.bind_some]
 by_cases q : leads w h c = true <;> simp [q]

theorem impl_HasChannel_eq (w h : Int) (l : List Int) (c : Int) (k : Nat) (hl : l.length ≤ 1048576) (hk : 1048577 < k) : impl_HasChannel.f k w h l c = some (hasC w h l c) := by
 unfold impl_HasChannel.f
 rw [impl_MeshOk_eq w h l k hl hk, impl_leads_eq, slicesContains_eq l c k hl hk]
 simp only [Option.bind_some]
 by_cases q : meshOk w h l = true
 ·by_cases q2 : leads w h c = true <;> simp [q, q2, hasC]
 ·simp [q, hasC]

theorem rdp_nat (l : List S83) (i : Nat) (h : i < l.length) : rd_T83 l (i : Int) = l[i] := by unfold rd_T83; simp [h]
theorem drop_rdp (l : List S83) (i : Nat) (h : i < l.length) : l.drop i = rd_T83 l (i : Int) :: l.drop (i + 1) := by
 rw [rdp_nat l i h]; exact List.drop_eq_getElem_cons h
/-- equal lists of pairs -/
def samep : List S83 → List S83 → Bool
 | [], [] => true
 | x :: a, y :: b => decide (x.f0 = y.f0) && (decide (x.f1 = y.f1) && samep a b)
 | _, _ => false
theorem samep_iff : ∀ a b : List S83, samep a b = true ↔ a = b
 | [], [] => by simp [samep]
 | [], y :: b => by simp [samep]
 | x :: a, [] => by simp [samep]
 | x :: a, y :: b => by
  have := samep_iff a b
  cases x; cases y
  simp [samep, this, and_assoc]
theorem eqDependS_loop (a b : List S83) (hl : a.length = b.length) (hn : a.length ≤ 9223372036854775806) : ∀ (d i k : Nat), i + d = a.length → d < k → laws_eqDependS.l0 k a b (i : Int) = some (samep (a.drop i) (b.drop i)) := by
 intro d
 induction d with
 | zero =>
  intro i k hi hk
  obtain ⟨k, rfl⟩ : ∃ m, k = m + 1 := ⟨k - 1, by omega⟩
  simp only [laws_eqDependS.l0]
  rw [if_neg (by omega), List.drop_eq_nil_of_le (by omega), List.drop_eq_nil_of_le (by omega)]
  simp [samep]
 | succ d ih =>
  intro i k hi hk
  obtain ⟨k, rfl⟩ : ∃ m, k = m + 1 := ⟨k - 1, by omega⟩
  simp only [laws_eqDependS.l0, laws_eqDepend.f]
  rw [if_pos (by omega), if_pos (by omega), if_pos (by omega), drop_rdp a i (by omega), drop_rdp b i (by omega)]
  simp only [samep]
  by_cases c : (rd_T83 a (i : Int)).f0 = (rd_T83 b (i : Int)).f0
  ·rw [if_pos c]
   by_cases c2 : (rd_T83 a (i : Int)).f1 = (rd_T83 b (i : Int)).f1
   ·rw [if_pos c2]
    simp only [Option.bind_some, if_true]
    rw [w64s (by omega), ih (i + 1) k (by omega) (by omega)]
    simp [c, c2]
   ·rw [if_neg c2]; simp [c, c2]
  ·rw [if_neg c]; simp [c]
theorem eqDependS_eq (a b : List S83) (k : Nat) (ha : a.length ≤ 1048576) (hk : 1048577 < k) : laws_eqDependS.f k a b = some (samep a b) := by
 unfold laws_eqDependS.f
 by_cases c : (a.length : Int) = (b.length : Int)
 ·rw [if_pos c]
  have h := eqDependS_loop a b (by omega) (by omega) a.length 0 k (by omega) (by omega)
  rw [show ((0 : Nat) : Int) = 0 from rfl] at h
  rw [h]
  simp only [List.drop_zero]
 ·rw [if_neg c]
  have : ¬ samep a b = true := fun e => c (by rw [(samep_iff a b).1 e])
  simp [this]
theorem eqDependS_self (a : List S83) (k : Nat) (ha : a.length ≤ 1048576) (hk : 1048577 < k) : laws_eqDependS.f k a a = some true := by rw [eqDependS_eq a a k ha hk, (samep_iff a a).2 rfl]

def prt (w h : Int) (l p : List Int) (n t : Int) : Int := if (meshOk w h l && (nd w h n && (nd w h t && (decide ((p.length : Int) = cnt w h * cnt w h) && inR (rd p (n * cnt w h + t)) 0 4)))) = true then rd p (n * cnt w h + t) else -1
theorem prt_bd {w h n t : Int} (d : nd w h n = true) (e : nd w h t = true) : 0 ≤ n * cnt w h + t ∧ n * cnt w h + t < cnt w h * cnt w h ∧ n * cnt w h ≤ 256 := by
 have b1 := nd_iff.1 d
 have b2 := nd_iff.1 e
 have b3 := cnt_bd w h
 have h1 : 0 ≤ n * cnt w h := Int.mul_nonneg b1.1 (by omega)
 have h2 : n * cnt w h ≤ (cnt w h - 1) * cnt w h := Int.mul_le_mul_of_nonneg_right (by omega) (by omega)
 have h3 : (cnt w h - 1) * cnt w h = cnt w h * cnt w h - cnt w h := by rw [Int.sub_mul, Int.one_mul]
 have h4 : cnt w h * cnt w h ≤ 16 * cnt w h := Int.mul_le_mul_of_nonneg_right (by omega) (by omega)
 omega

theorem impl_PortAt_eq (w h : Int) (l p : List Int) (n t : Int) (k : Nat) (hl : l.length ≤ 1048576) (hk : 1048577 < k) : impl_PortAt.f k w h l p n t = some (prt w h l p n t) := by
 have b := cnt_bd w h
 unfold impl_PortAt.f prt
 have e1 : wrap64 (cnt w h - 1) = cnt w h - 1 := wrap64_id (by omega) (by omega)
 have hc : cnt w h * cnt w h ≤ 16 * cnt w h := Int.mul_le_mul_of_nonneg_right (by omega) (by omega)
 have hc0 : 0 ≤ cnt w h * cnt w h := Int.mul_nonneg (by omega) (by omega)
 have e2 : wrap64 (cnt w h * cnt w h) = cnt w h * cnt w h := wrap64_id (by omega) (by omega)
 simp only [impl_NodeCount_eq, impl_MeshOk_eq w h l k hl hk, impl_inside_eq, Option.bind_some, e1, e2]
 have f1 : ∀ x, inR x 0 (cnt w h - 1) = nd w h x := fun _ => rfl
 simp only [f1]
 by_cases m : meshOk w h l = true
 ·rw [if_pos m]
  by_cases d : nd w h n = true
  ·rw [if_pos d]
   by_cases e : nd w h t = true
   ·rw [if_pos e]
    have q := prt_bd d e
    rw [wrap64_id (x := n * cnt w h) (by have := Int.mul_nonneg (nd_iff.1 d).1 b.1; omega) (by omega), wrap64_id (x := n * cnt w h + t) (by omega) (by omega)]
    by_cases s : (p.length : Int) = cnt w h * cnt w h
    ·rw [if_pos s, if_pos q.1, if_pos (by omega)]
     by_cases r : inR (rd p (n * cnt w h + t)) 0 4 = true
     ·rw [if_pos r]; simp [m, d, e, s, r]
     ·rw [if_neg r]; simp [r]
    ·rw [if_neg s]; simp [s]
   ·rw [if_neg e]; simp [e]
  ·rw [if_neg d]; simp [d]
 ·rw [if_neg m]; simp [m]

theorem markDependS_loop (n m0 : Nat) (hn : 2 * n + m0 ≤ 4000000000) : ∀ (d i k : Nat) (x : List S83), i + d = n → d < k → x.length = n → (∀ j, j < i → x[j]? = some ⟨((m0 + 2 * j : Nat) : Int), ((m0 + 2 * j + 1 : Nat) : Int)⟩) → laws_markDependS.l0 k x ((m0 + 2 * i : Nat) : Int) (i : Int) = some (((m0 + 2 * n : Nat) : Int), (List.range n).map fun j => (⟨((m0 + 2 * j : Nat) : Int), ((m0 + 2 * j + 1 : Nat) : Int)⟩ : S83)) := by
 intro d
 induction d with
 | zero =>
  intro i k x hi hk hl hx
  obtain ⟨k, rfl⟩ : ∃ m, k = m + 1 := ⟨k - 1, by omega⟩
  simp only [laws_markDependS.l0]
  rw [if_neg (by omega)]
  have e : x = (List.range n).map fun j => (⟨((m0 + 2 * j : Nat) : Int), ((m0 + 2 * j + 1 : Nat) : Int)⟩ : S83) := by
   apply List.ext_getElem?
   intro j
   by_cases hj : j < n
   ·rw [hx j (by omega)]; simp [hj]
   ·rw [List.getElem?_eq_none (by omega), List.getElem?_eq_none (by simp; omega)]
  obtain rfl : i = n := by omega
  rw [← e]
 | succ d ih =>
  intro i k x hi hk hl hx
  obtain ⟨k, rfl⟩ : ∃ m, k = m + 1 := ⟨k - 1, by omega⟩
  simp only [laws_markDependS.l0, Option.bind_some]
  rw [if_pos (by omega), if_pos (by omega), w64s (by omega), w64s (by omega), w64s (by omega)]
  have e2 : m0 + 2 * i + 1 + 1 = m0 + 2 * (i + 1) := by omega
  rw [e2]
  refine ih (i + 1) k _ (by omega) (by omega) (by simpa using hl) fun j hj => ?_
  have e : ((i : Int)).toNat = i := by simp
  rw [e, List.getElem?_set]
  by_cases c : i = j
  ·subst c
   rw [if_pos rfl, if_pos (by simp; omega)]
   congr 1
   unfold rd_T83
   simp [show i < x.length by omega]
  ·rw [if_neg c, List.getElem?_set, if_neg c]; exact hx j (by omega)
theorem mark_anyp (l : List S83) (m0 k : Nat) (hl : l.length ≤ 3000000) (hm : m0 ≤ 10000000) (hk : 3000001 < k) : ∃ r, laws_markDependS.f k l (m0 : Int) = some ((m0 : Int) + 2 * (l.length : Int), r) := by
 have h1 := markDependS_loop l.length m0 (by omega) l.length 0 k l (by omega) (by omega) rfl (by simp)
 rw [show ((m0 + 2 * 0 : Nat) : Int) = m0 from by simp, show ((0 : Nat) : Int) = 0 from rfl, show ((m0 + 2 * l.length : Nat) : Int) = (m0 : Int) + 2 * (l.length : Int) by omega] at h1
 exact ⟨_, h1⟩

theorem heldDependS_loop (n m0 : Nat) (hn : 2 * n + m0 ≤ 4000000000) : ∀ (d i k : Nat), i + d = n → d < k → laws_heldDependS.l0 k ((List.range n).map fun j => (⟨((m0 + 2 * j : Nat) : Int), ((m0 + 2 * j + 1 : Nat) : Int)⟩ : S83)) ((m0 + 2 * i : Nat) : Int) (i : Int) = some ((m0 + 2 * n : Nat) : Int) := by
 intro d
 induction d with
 | zero =>
  intro i k hi hk
  obtain ⟨k, rfl⟩ : ∃ m, k = m + 1 := ⟨k - 1, by omega⟩
  simp only [laws_heldDependS.l0]
  rw [if_neg (by simp; omega)]
  obtain rfl : i = n := by omega
  rfl
 | succ d ih =>
  intro i k hi hk
  obtain ⟨k, rfl⟩ : ∃ m, k = m + 1 := ⟨k - 1, by omega⟩
  simp only [laws_heldDependS.l0]
  rw [if_pos (by simp; omega), if_pos (by omega), rdp_nat _ i (by simp; omega), w64s (by omega), w64s (by omega), w64s (by omega)]
  rw [if_pos (by simp), if_pos (by simp)]
  have e2 : m0 + 2 * i + 1 + 1 = m0 + 2 * (i + 1) := by omega
  rw [e2]
  exact ih (i + 1) k (by omega) (by omega)
theorem mark_heldp (l : List S83) (k : Nat) (hl : l.length ≤ 3000000) (hk : 3000001 < k) : ∃ r, laws_markDependS.f k l 1 = some (1 + 2 * (l.length : Int), r) ∧ laws_heldDependS.f k r 1 = some (1 + 2 * (l.length : Int)) := by
 have h1 := markDependS_loop l.length 1 (by omega) l.length 0 k l (by omega) (by omega) rfl (by simp)
 have h2 := heldDependS_loop l.length 1 (by omega) l.length 0 k (by omega) (by omega)
 rw [show ((1 + 2 * 0 : Nat) : Int) = 1 from rfl, show ((0 : Nat) : Int) = 0 from rfl, show ((1 + 2 * l.length : Nat) : Int) = 1 + 2 * (l.length : Int) by omega] at h1 h2
 exact ⟨_, h1, h2⟩

def stdG (w h r : Int) (i : Nat) : Int := stdP w r ((i / (cnt w h).toNat : Nat) : Int) ((i % (cnt w h).toNat : Nat) : Int)
def stdT (w h r : Int) : List Int := (List.range ((cnt w h).toNat * (cnt w h).toNat)).map (stdG w h r)
theorem stdT_len (w h r : Int) : (stdT w h r).length = (cnt w h).toNat * (cnt w h).toNat := by simp [stdT]
theorem cnt_sq (w h : Int) : (cnt w h).toNat * (cnt w h).toNat ≤ 256 ∧ (((cnt w h).toNat * (cnt w h).toNat : Nat) : Int) = cnt w h * cnt w h := by
 have b := cnt_bd w h
 obtain ⟨n, hn⟩ : ∃ n : Nat, cnt w h = n := ⟨(cnt w h).toNat, by omega⟩
 rw [hn] at b ⊢
 simp only [Int.toNat_natCast]
 refine ⟨?_, by simp⟩
 have : n ≤ 16 := by omega
 exact Nat.mul_le_mul this this

theorem impl_endOf_eq (w h : Int) (l : List Int) (c : Int) (h0 : 0 ≤ c) (h1 : c ≤ 1000) : impl_endOf.f w h l c = some (nxt w h (c / 4) (c % 4)) := by
 unfold impl_endOf.f
 rw [tmod_of h0, tdiv_of h0, wrap64_id (by omega) (by omega), impl_NextNode_eq]
 rfl

/-- a walk by the table, from a on, d channels at most -/
def wlk (w h : Int) (l p : List Int) (t : Int) : Nat → Int → List Int → List Int
 | 0, a, out => if rd p (a * cnt w h + t) = 4 then (if a = t then out else []) else []
 | d + 1, a, out => if rd p (a * cnt w h + t) = 4 then (if a = t then out else []) else if (inR (rd p (a * cnt w h + t)) 0 3 && hasC w h l (4 * a + rd p (a * cnt w h + t))) = true then wlk w h l p t d (nxt w h a (rd p (a * cnt w h + t))) (out ++ [4 * a + rd p (a * cnt w h + t)]) else []
theorem hasC_lead {w h : Int} {l : List Int} {a q : Int} (c : hasC w h l (4 * a + q) = true) (h0 : 0 ≤ q) (h1 : q ≤ 3) : nd w h (nxt w h a q) = true ∧ (leads w h (4 * a + q) && !decide (4 * a + q ∈ l)) = true := by
 unfold hasC at c
 have q2 : (leads w h (4 * a + q) && !decide (4 * a + q ∈ l)) = true := by simp only [Bool.and_eq_true] at c ⊢; exact c.2
 refine ⟨?_, q2⟩
 simp only [Bool.and_eq_true] at c
 have b := (leads_iff.1 c.2.1).2
 rw [show (4 * a + q) / 4 = a by omega, show (4 * a + q) % 4 = q by omega] at b
 exact (nxt_nd b).2
theorem impl_walk_loop (w h : Int) (l p : List Int) (t : Int) (hl : l.length ≤ 1048576) (m : meshOk w h l = true) (e : nd w h t = true) (hp : (p.length : Int) = cnt w h * cnt w h) : ∀ (d k : Nat) (a : Int) (out : List Int), nd w h a = true → (out.length : Int) + d = cnt w h → 1048600 + d < k → impl_WalkTable.l0 k t out a w h l p = some (wlk w h l p t d a out) := by
 have bc := cnt_bd w h
 intro d
 induction d with
 | zero =>
  intro k a out da ho hk
  obtain ⟨k, rfl⟩ : ∃ m, k = m + 1 := ⟨k - 1, by omega⟩
  have ba := nd_bd da
  have eP : prt w h l p a t = if inR (rd p (a * cnt w h + t)) 0 4 = true then rd p (a * cnt w h + t) else -1 := by unfold prt; simp [m, da, e, hp]
  simp only [impl_WalkTable.l0]
  rw [impl_PortAt_eq w h l p a t k hl (by omega), eP]
  simp only [wlk]
  generalize hq : rd p (a * cnt w h + t) = q
  simp only [Option.bind_some]
  by_cases c4 : q = 4
  ·subst c4
   rw [if_pos (show inR 4 0 4 = true from rfl), if_neg (by omega), if_pos rfl, if_pos rfl]
   by_cases z : a = t
   ·rw [if_pos z, if_pos z]
   ·rw [if_neg z, if_neg z]
  ·rw [if_neg c4]
   by_cases r : inR q 0 4 = true
   ·have rb := inR_iff.1 r
    rw [if_pos r, if_neg (by omega), if_neg c4, wrap64_id (x := 4 * a) (by omega) (by omega), wrap64_id (x := 4 * a + q) (by omega) (by omega), impl_HasChannel_eq w h l _ k hl (by omega)]
    simp only [Option.bind_some]
    by_cases c : hasC w h l (4 * a + q) = true
    ·rw [if_pos c, impl_NodeCount_eq]
     simp only [Option.bind_some]
     rw [if_pos (by omega)]
    ·rw [if_neg c]
   ·rw [if_neg r, if_pos (by omega)]
 | succ d ih =>
  intro k a out da ho hk
  obtain ⟨k, rfl⟩ : ∃ m, k = m + 1 := ⟨k - 1, by omega⟩
  have ba := nd_bd da
  have eP : prt w h l p a t = if inR (rd p (a * cnt w h + t)) 0 4 = true then rd p (a * cnt w h + t) else -1 := by unfold prt; simp [m, da, e, hp]
  simp only [impl_WalkTable.l0]
  rw [impl_PortAt_eq w h l p a t k hl (by omega), eP]
  simp only [wlk]
  generalize hq : rd p (a * cnt w h + t) = q
  simp only [Option.bind_some]
  by_cases c4 : q = 4
  ·subst c4
   rw [if_pos (show inR 4 0 4 = true from rfl), if_neg (by omega), if_pos rfl, if_pos rfl]
   by_cases z : a = t
   ·rw [if_pos z, if_pos z]
   ·rw [if_neg z, if_neg z]
  ·rw [if_neg c4]
   by_cases r : inR q 0 4 = true
   ·have rb := inR_iff.1 r
    have r3 : inR q 0 3 = true := inR_iff.2 (by omega)
    rw [if_pos r, if_neg (by omega), if_neg c4, wrap64_id (x := 4 * a) (by omega) (by omega), wrap64_id (x := 4 * a + q) (by omega) (by omega), impl_HasChannel_eq w h l _ k hl (by omega)]
    simp only [Option.bind_some, r3, Bool.true_and]
    by_cases c : hasC w h l (4 * a + q) = true
    ·rw [if_pos c, impl_NodeCount_eq, if_pos c]
     simp only [Option.bind_some]
     rw [if_neg (by omega), if_pos (by omega), impl_endOf_eq w h l _ (by omega) (by omega), show (4 * a + q) / 4 = a by omega, show (4 * a + q) % 4 = q by omega]
     simp only [Option.bind_some]
     rw [ih k _ _ (hasC_lead c (by omega) (by omega)).1 (by simp; omega) (by omega)]
    ·rw [if_neg c, if_neg c]
   ·have r3 : inR q 0 3 = false := inR_no.2 (fun x => r (inR_iff.2 (by omega)))
    rw [if_neg r, if_pos (by omega), if_neg (by simp [r3])]
def wt (w h : Int) (l p : List Int) (a b : Int) : List Int := wlk w h l p b (cnt w h).toNat a []
theorem wlk_len (w h : Int) (l p : List Int) (t : Int) : ∀ (d : Nat) (a : Int) (out : List Int), (wlk w h l p t d a out).length ≤ out.length + d
 | 0, a, out => by
  simp only [wlk]
  split
  ·split <;> simp
  ·simp
 | d + 1, a, out => by
  simp only [wlk]
  split
  ·split <;> simp
  ·split
   ·have := wlk_len w h l p t d (nxt w h a (rd p (a * cnt w h + t))) (out ++ [4 * a + rd p (a * cnt w h + t)])
    simp at this; omega
   ·simp
theorem wt_len (w h : Int) (l p : List Int) (a b : Int) : (wt w h l p a b).length ≤ 16 := by
 have q := wlk_len w h l p b (cnt w h).toNat a []
 have := cnt_bd w h
 unfold wt
 simp only [List.length_nil, Nat.zero_add] at q
 omega
/-- the walk, where the mesh, the table's size and the nodes are good -/
def wtb (w h : Int) (l p : List Int) (a b : Int) : List Int := if (decide (a ≠ b) && (meshOk w h l && (nd w h a && (nd w h b && decide ((p.length : Int) = cnt w h * cnt w h))))) = true then wt w h l p a b else []
theorem impl_WalkTable_eq (w h : Int) (l p : List Int) (a b : Int) (k : Nat) (hl : l.length ≤ 1048576) (hk : 1048700 < k) : impl_WalkTable.f k w h l p a b = some (wtb w h l p a b) := by
 have bc := cnt_bd w h
 obtain ⟨k, rfl⟩ : ∃ m, k = m + 1 + 1 := ⟨k - 2, by omega⟩
 unfold impl_WalkTable.f wtb
 by_cases z : a = b
 ·rw [if_pos z]; simp [impl_WalkTable.j0, z]
 rw [if_neg z, impl_MeshOk_eq w h l _ hl (by omega), impl_isNode_eq, impl_isNode_eq]
 simp only [Option.bind_some, impl_WalkTable.j0]
 by_cases m : meshOk w h l = true
 ·rw [if_pos m]
  by_cases da : nd w h a = true
  ·rw [if_pos da]
   by_cases e : nd w h b = true
   ·rw [if_neg (by simp [e])]
    by_cases hp : (p.length : Int) = cnt w h * cnt w h
    ·rw [if_pos (by simp [z, m, da, e, hp])]
     exact impl_walk_loop w h l p b hl m e hp _ (k + 1) a [] da (by simp; omega) (by omega)
    ·rw [if_neg (by simp [hp])]
     simp only [impl_WalkTable.l0]
     rw [impl_PortAt_eq w h l p a b k hl (by omega), show prt w h l p a b = -1 by unfold prt; simp [hp]]
     rfl
   ·rw [if_pos (by simp [e]), if_neg (by simp [e])]
  ·rw [if_neg da]; simp [da]
 ·rw [if_neg m]; simp [m]

theorem spec_walk_loop (w h : Int) (l p : List Int) (t : Int) (hl : l.length ≤ 1048576) (m : meshOk w h l = true) (e : nd w h t = true) (hp : (p.length : Int) = cnt w h * cnt w h) : ∀ (d k : Nat) (a : Int) (out : List Int), nd w h a = true → (out.length : Int) + d = cnt w h → 1048600 + d < k → spec_l04Walk.l0 k t out (cnt w h) a w h l p = some (wlk w h l p t d a out) := by
 have bc := cnt_bd w h
 intro d
 induction d with
 | zero =>
  intro k a out da ho hk
  obtain ⟨k, rfl⟩ : ∃ m, k = m + 1 + 1 := ⟨k - 2, by omega⟩
  have ba := nd_bd da
  have be := nd_bd e
  have ib := prt_bd da e
  have h9 : 0 ≤ a * cnt w h := Int.mul_nonneg (by omega) (by omega)
  simp only [spec_l04Walk.l0]
  rw [if_pos (by omega), wrap64_id (x := a * cnt w h) (by omega) (by omega), wrap64_id (x := a * cnt w h + t) (by omega) (by omega), if_pos ib.1, if_pos (by omega)]
  simp only [wlk]
  generalize hq : rd p (a * cnt w h + t) = q
  by_cases c4 : q = 4
  ·rw [if_pos c4, if_pos c4]
   by_cases z : a = t
   ·rw [if_pos z, if_pos z]
   ·rw [if_neg z, if_neg z]
  ·rw [if_neg c4, if_neg c4, spec_l01In_eq]
   simp only [Option.bind_some]
   by_cases r : inR q 0 3 = true
   ·have rb := inR_iff.1 r
    rw [if_pos r, wrap64_id (x := 4 * a) (by omega) (by omega), wrap64_id (x := 4 * a + q) (by omega) (by omega), l03Has_eq w h l _ _ hl (by omega)]
    simp only [Option.bind_some]
    by_cases c : (leads w h (4 * a + q) && !decide (4 * a + q ∈ l)) = true
    ·rw [if_pos c, if_pos (by omega), spec_NextNode_eq]
     simp only [Option.bind_some]
     rw [if_neg (by simp; omega)]
    ·rw [if_neg c]
   ·rw [if_neg r]
 | succ d ih =>
  intro k a out da ho hk
  obtain ⟨k, rfl⟩ : ∃ m, k = m + 1 := ⟨k - 1, by omega⟩
  have ba := nd_bd da
  have be := nd_bd e
  have ib := prt_bd da e
  have h9 : 0 ≤ a * cnt w h := Int.mul_nonneg (by omega) (by omega)
  simp only [spec_l04Walk.l0]
  rw [if_pos (by omega), wrap64_id (x := a * cnt w h) (by omega) (by omega), wrap64_id (x := a * cnt w h + t) (by omega) (by omega), if_pos ib.1, if_pos (by omega)]
  simp only [wlk]
  generalize hq : rd p (a * cnt w h + t) = q
  by_cases c4 : q = 4
  ·rw [if_pos c4, if_pos c4]
   by_cases z : a = t
   ·rw [if_pos z, if_pos z]
   ·rw [if_neg z, if_neg z]
  ·rw [if_neg c4, if_neg c4, spec_l01In_eq]
   simp only [Option.bind_some]
   by_cases r : inR q 0 3 = true
   ·have rb := inR_iff.1 r
    rw [if_pos r, wrap64_id (x := 4 * a) (by omega) (by omega), wrap64_id (x := 4 * a + q) (by omega) (by omega), l03Has_eq w h l _ _ hl (by omega)]
    simp only [Option.bind_some, r, Bool.true_and]
    by_cases c : hasC w h l (4 * a + q) = true
    ·rw [if_pos (hasC_lead c (by omega) (by omega)).2, if_pos (by omega), spec_NextNode_eq, if_pos c]
     simp only [Option.bind_some]
     rw [ih k _ _ (hasC_lead c (by omega) (by omega)).1 (by simp; omega) (by omega)]
    ·rw [if_neg c, if_neg (by unfold hasC at c; simpa [m] using c)]
   ·have r3 : inR q 0 3 = false := by simpa using r
    rw [if_neg r, if_neg (by simp [r3])]
theorem spec_l04Walk_eq (w h : Int) (l p : List Int) (a b : Int) (k : Nat) (hl : l.length ≤ 1048576) (m : meshOk w h l = true) (da : nd w h a = true) (e : nd w h b = true) (hp : (p.length : Int) = cnt w h * cnt w h) (hk : 1048700 < k) : spec_l04Walk.f k w h l p a b = some (wt w h l p a b) := by
 have bc := cnt_bd w h
 unfold spec_l04Walk.f wt
 rw [spec_NodeCount_eq]
 simp only [Option.bind_some]
 exact spec_walk_loop w h l p b hl m e hp _ k a [] da (by simp; omega) (by omega)
theorem spec_l04Sized_eq (w h : Int) (l p : List Int) (k : Nat) (hl : l.length ≤ 1048576) (hk : 1048577 < k) : spec_l04Sized.f k w h l p = some (meshOk w h l && decide ((p.length : Int) = cnt w h * cnt w h)) := by
 have bc := cnt_bd w h
 have hc : cnt w h * cnt w h ≤ 16 * cnt w h := Int.mul_le_mul_of_nonneg_right (by omega) (by omega)
 have hc0 : 0 ≤ cnt w h * cnt w h := Int.mul_nonneg (by omega) (by omega)
 unfold spec_l04Sized.f
 rw [spec_NodeCount_eq, spec_MeshOk_eq w h l k hl hk]
 simp only [Option.bind_some]
 rw [wrap64_id (x := cnt w h * cnt w h) (by omega) (by omega)]
 by_cases m : meshOk w h l = true
 ·rw [if_pos m, m, Bool.true_and]; rfl
 ·rw [if_neg m]; simp [m]

theorem eqIntS_big (a : List Int) (k : Nat) (ha : a.length ≤ 2000000) (hk : 2000001 < k) : laws_eqIntS.f k a a = some true := by
 unfold laws_eqIntS.f
 rw [if_pos rfl]
 have h := eqIntS_loop a a (by omega) (by omega) a.length 0 k (by omega) (by omega)
 simpa using h

theorem mark_any (l : List Int) (m k : Nat) (hl : l.length ≤ 1048576) (hm : m ≤ 100000000) (hk : 1048577 < k) : ∃ r, laws_markIntS.f k l (m : Int) = some (((m + l.length : Nat) : Int), r) := ⟨_, markIntS_eq l m k (by omega) (by omega)⟩

theorem mark_table (l : List Int) (m k : Nat) (hl : l.length ≤ 1048576) (hm : m ≤ 100000000) (hk : 1048577 < k) : ∃ r, laws_markTable.f k l (m : Int) = some (((m + l.length : Nat) : Int), r) := by
 obtain ⟨r, h⟩ := mark_any l m k hl hm hk
 exact ⟨r, by unfold laws_markTable.f; rw [h]; rfl⟩

theorem pall_all (n i : Nat) (f : Int → Int → Bool) : ((pall n i).all fun e => f e.1 e.2) = ((List.range' i (n - i)).all fun (a : Nat) => (List.range' 0 n).all fun (b : Nat) => (decide (a = b) || f (a : Int) (b : Int))) := by
 unfold pall prow
 rw [List.all_flatMap]
 congr 1
 funext a
 rw [List.all_map, List.all_filter]
 congr 1
 funext b
 by_cases z : a = b <;> simp [z]
def diagOk (n : Nat) (p : List Int) (i d : Nat) : Bool := (List.range' i d).all fun (j : Nat) => decide (rd p (((j : Nat) : Int) * (n : Int) + (j : Int)) = 4)
def wOk (w h : Int) (l p : List Int) (a b : Int) : Bool := decide ((wt w h l p a b).length ≠ 0)
def cellOk (w h : Int) (l p : List Int) (n a b : Nat) : Bool := if a = b then decide (rd p (((a : Nat) : Int) * (n : Int) + (a : Int)) = 4) else wOk w h l p a b
def rowOk (w h : Int) (l p : List Int) (n a b d : Nat) : Bool := (List.range' b d).all fun (j : Nat) => cellOk w h l p n a j
def allOk (w h : Int) (l p : List Int) (n a d : Nat) : Bool := (List.range' a d).all fun (i : Nat) => rowOk w h l p n i 0 n
theorem idx_bd {n a b : Nat} (hn : n ≤ 16) (ha : a < n) (hb : b < n) : a * n + b < n * n ∧ a * n ≤ 256 := by
 have h1 : (a + 1) * n ≤ n * n := Nat.mul_le_mul_right _ ha
 have h2 : a * n ≤ 16 * 16 := Nat.mul_le_mul (by omega) hn
 rw [Nat.succ_mul] at h1
 omega
theorem nd_nat {w h : Int} {n a : Nat} (hn : cnt w h = (n : Int)) (ha : a < n) : nd w h (a : Int) = true := by rw [nd_iff]; omega
theorem impl_diag_loop (n : Nat) (p : List Int) (hn : n ≤ 16) (hp : p.length = n * n) : ∀ (d i k : Nat), i + d = n → d < k → impl_TableOk.l0 k (n : Int) (i : Int) p = some (diagOk n p i d) := by
 intro d
 induction d with
 | zero =>
  intro i k hi hk
  obtain ⟨k, rfl⟩ : ∃ m, k = m + 1 := ⟨k - 1, by omega⟩
  simp only [impl_TableOk.l0]
  rw [if_neg (by omega)]
  rfl
 | succ d ih =>
  intro i k hi hk
  obtain ⟨k, rfl⟩ : ∃ m, k = m + 1 := ⟨k - 1, by omega⟩
  obtain ⟨b1, b2⟩ := idx_bd hn (show i < n by omega) (show i < n by omega)
  have e1 : (i : Int) * (n : Int) = ((i * n : Nat) : Int) := by simp
  simp only [impl_TableOk.l0]
  rw [if_pos (by omega), e1, wrap64_id (x := ((i * n : Nat) : Int)) (by omega) (by omega), wrap64_id (x := ((i * n : Nat) : Int) + (i : Int)) (by omega) (by omega), if_pos (by omega), if_pos (by omega), w64s (by omega)]
  have e2 : diagOk n p i (d + 1) = (decide (rd p (((i * n : Nat) : Int) + (i : Int)) = 4) && diagOk n p (i + 1) d) := by unfold diagOk; rw [List.range'_succ, List.all_cons, e1]
  rw [e2]
  by_cases q : rd p (((i * n : Nat) : Int) + (i : Int)) = 4
  ·rw [if_pos q, ih (i + 1) k (by omega) (by omega), decide_eq_true q, Bool.true_and]
  ·rw [if_neg q, decide_eq_false q, Bool.false_and]
theorem impl_wk_eq (w h : Int) (l p : List Int) (n : Nat) (hn : cnt w h = (n : Int)) (k : Nat) (hl : l.length ≤ 1048576) (m : meshOk w h l = true) (hp : (p.length : Int) = cnt w h * cnt w h) (hk : 1048700 < k) : ∀ r : List (Int × Int), (∀ e ∈ r, e.1 ≠ e.2 ∧ nd w h e.1 = true ∧ nd w h e.2 = true) → impl_TableOk.wk k w h l p r = some (r.all fun e => wOk w h l p e.1 e.2)
 | [], _ => rfl
 | (a, b) :: r, hr => by
  have h1 := hr (a, b) List.mem_cons_self
  simp only at h1
  unfold impl_TableOk.wk
  rw [impl_WalkTable_eq w h l p a b k hl hk, show wtb w h l p a b = wt w h l p a b by unfold wtb; simp [h1.1, m, h1.2.1, h1.2.2, hp]]
  simp only [Option.bind_some, List.all_cons]
  have ih := impl_wk_eq w h l p n hn k hl m hp hk r (fun e he => hr e (List.mem_cons_of_mem _ he))
  by_cases q : (wt w h l p a b).length = 0
  ·rw [if_neg (by omega)]; simp [wOk, q]
  ·rw [if_pos (by omega), ih]; simp [wOk, q]
theorem pall_mem {w h : Int} {n : Nat} (hn : cnt w h = (n : Int)) {e : Int × Int} (he : e ∈ pall n 0) : e.1 ≠ e.2 ∧ nd w h e.1 = true ∧ nd w h e.2 = true := by
 unfold pall prow at he
 simp only [List.mem_flatMap, List.mem_map, List.mem_filter, List.mem_range', decide_eq_true_eq] at he
 obtain ⟨a, ⟨i, hi, rfl⟩, b, ⟨⟨j, hj, rfl⟩, hne⟩, rfl⟩ := he
 exact ⟨by simp only; omega, nd_nat hn (by omega), nd_nat hn (by omega)⟩
def tabOk (w h : Int) (l p : List Int) : Bool := meshOk w h l && (decide ((p.length : Int) = cnt w h * cnt w h) && allOk w h l p (cnt w h).toNat 0 (cnt w h).toNat)
theorem allOk_split (w h : Int) (l p : List Int) (n : Nat) : allOk w h l p n 0 n = (diagOk n p 0 n && ((pall n 0).all fun e => wOk w h l p e.1 e.2)) := by
 rw [pall_all n 0 (wOk w h l p), Bool.eq_iff_iff, Bool.and_eq_true]
 unfold allOk rowOk diagOk cellOk
 simp only [List.all_eq_true, List.mem_range', Nat.sub_zero, Bool.or_eq_true, decide_eq_true_eq]
 constructor
 ·intro H
  refine ⟨fun x hx => ?_, fun x hx y hy => ?_⟩
  ·have := H x hx x hx; rw [if_pos rfl] at this; exact of_decide_eq_true this
  ·have := H x hx y hy
   by_cases z : x = y
   ·exact Or.inl z
   ·rw [if_neg z] at this; exact Or.inr this
 ·rintro ⟨H1, H2⟩ x hx y hy
  by_cases z : x = y
  ·rw [if_pos z]; exact decide_eq_true (H1 x hx)
  ·rw [if_neg z]; exact (H2 x hx y hy).resolve_left z
theorem wt_diag {w h : Int} {l p : List Int} {a : Int} (q : rd p (a * cnt w h + a) = 4) : wt w h l p a a = [] := by
 unfold wt
 cases (cnt w h).toNat with
 | zero => simp only [wlk]; rw [if_pos q]; simp
 | succ d => simp only [wlk]; rw [if_pos q]; simp
theorem tab_diag {w h : Int} {l p : List Int} {n : Nat} (hn : cnt w h = (n : Int)) (t : tabOk w h l p = true) {a : Nat} (ha : a < n) : wt w h l p (a : Int) (a : Int) = [] := by
 unfold tabOk at t
 simp only [Bool.and_eq_true] at t
 have t2 := t.2.2
 rw [hn, Int.toNat_natCast, allOk_split, Bool.and_eq_true] at t2
 have := List.all_eq_true.1 t2.1 a (List.mem_range'.2 ⟨a, ha, by simp⟩)
 exact wt_diag (by rw [hn]; exact of_decide_eq_true this)
theorem impl_TableOk_eq (w h : Int) (l p : List Int) (k : Nat) (hl : l.length ≤ 1048576) (hk : 1060000 < k) : impl_TableOk.f k w h l p = some (tabOk w h l p) := by
 have bc := cnt_bd w h
 obtain ⟨n, hn⟩ : ∃ n : Nat, cnt w h = (n : Int) := ⟨(cnt w h).toNat, by omega⟩
 have hc : cnt w h * cnt w h ≤ 16 * cnt w h := Int.mul_le_mul_of_nonneg_right (by omega) (by omega)
 have hc0 : 0 ≤ cnt w h * cnt w h := Int.mul_nonneg (by omega) (by omega)
 unfold impl_TableOk.f tabOk
 rw [impl_NodeCount_eq, impl_MeshOk_eq w h l k hl (by omega)]
 simp only [Option.bind_some]
 rw [wrap64_id (x := cnt w h * cnt w h) (by omega) (by omega)]
 by_cases m : meshOk w h l = true
 ·rw [if_pos m]
  by_cases hp : (p.length : Int) = cnt w h * cnt w h
  ·have hpN : p.length = n * n := by rw [hn] at hp; exact_mod_cast hp
   rw [if_pos hp, hn, show (0 : Int) = ((0 : Nat) : Int) from rfl, impl_diag_loop n p (by omega) hpN n 0 k (by omega) (by omega)]
   simp only [Option.bind_some, Int.toNat_natCast]
   rw [allOk_split, impl_wk_eq w h l p n hn k hl m hp (by omega) (pall n 0) (fun e he => pall_mem hn he)]
   by_cases dg : diagOk n p 0 n = true
   ·rw [if_pos dg]; simp [m, dg, hpN]
   ·rw [if_neg dg]; simp [dg]
  ·rw [if_neg hp]; simp [hp]
 ·rw [if_neg m]; simp [m]

theorem spec_TableOk_loops (w h : Int) (l p : List Int) (n : Nat) (hn : cnt w h = (n : Int)) (hl : l.length ≤ 1048576) (m : meshOk w h l = true) (hp : p.length = n * n) : ∀ (d a : Nat), a + d = n → (∀ k, 1049000 + 100 * d < k → spec_TableOk.l0 k (n : Int) (a : Int) w h l p = some (allOk w h l p n a d)) := by
 have bc := cnt_bd w h
 have hn16 : n ≤ 16 := by omega
 have hpI : (p.length : Int) = cnt w h * cnt w h := by rw [hn, hp]; simp
 intro d
 induction d with
 | zero =>
  intro a ha k hk
  obtain ⟨k, rfl⟩ : ∃ m, k = m + 1 := ⟨k - 1, by omega⟩
  simp only [spec_TableOk.l0]
  rw [if_neg (by omega)]
  rfl
 | succ d ih =>
  intro a ha k hk
  obtain ⟨k, rfl⟩ : ∃ m, k = m + 1 := ⟨k - 1, by omega⟩
  simp only [spec_TableOk.l0]
  rw [if_pos (by omega)]
  have e0 : allOk w h l p n a (d + 1) = (rowOk w h l p n a 0 n && allOk w h l p n (a + 1) d) := by unfold allOk; rw [List.range'_succ, List.all_cons]
  rw [e0]
  have inner : ∀ (e b k : Nat), b + e = n → 1049000 + 100 * d + e + 1 < k → spec_TableOk.l1 k (n : Int) (a : Int) (b : Int) w h l p = some (rowOk w h l p n a b e && allOk w h l p n (a + 1) d) := by
   intro e
   induction e with
   | zero =>
    intro b k hb hk
    obtain ⟨k, rfl⟩ : ∃ m, k = m + 1 := ⟨k - 1, by omega⟩
    simp only [spec_TableOk.l1]
    rw [if_neg (by omega), w64s (by omega), ih (a + 1) (by omega) k (by omega)]
    simp [rowOk]
   | succ e ih2 =>
    intro b k hb hk
    obtain ⟨k, rfl⟩ : ∃ m, k = m + 1 := ⟨k - 1, by omega⟩
    obtain ⟨b1, b2⟩ := idx_bd hn16 (show a < n by omega) (show a < n by omega)
    have e1 : (a : Int) * (n : Int) = ((a * n : Nat) : Int) := by simp
    have e3 : rowOk w h l p n a b (e + 1) = (cellOk w h l p n a b && rowOk w h l p n a (b + 1) e) := by unfold rowOk; rw [List.range'_succ, List.all_cons]
    have i2 := ih2 (b + 1) k (by omega) (by omega)
    simp only [spec_TableOk.l1]
    rw [if_pos (by omega), w64s (show b ≤ 9223372036854775806 by omega), e3]
    by_cases z : a = b
    ·rw [if_pos (by omega), e1, wrap64_id (x := ((a * n : Nat) : Int)) (by omega) (by omega), wrap64_id (x := ((a * n : Nat) : Int) + (a : Int)) (by omega) (by omega), if_pos (by omega), if_pos (by omega), i2]
     have e4 : cellOk w h l p n a b = decide (rd p (((a * n : Nat) : Int) + (a : Int)) = 4) := by unfold cellOk; rw [if_pos z, e1]
     rw [e4]
     by_cases q : rd p (((a * n : Nat) : Int) + (a : Int)) = 4
     ·rw [if_pos q, decide_eq_true q, Bool.true_and]
     ·rw [if_neg q, decide_eq_false q, Bool.false_and, Bool.false_and]
    ·rw [if_neg (by omega), spec_l04Walk_eq w h l p a b k hl m (nd_nat hn (by omega)) (nd_nat hn (by omega)) hpI (by omega), i2]
     have e4 : cellOk w h l p n a b = wOk w h l p a b := by unfold cellOk; rw [if_neg z]
     rw [e4]
     simp only [Option.bind_some]
     by_cases q : (wt w h l p a b).length = 0
     ·rw [if_pos (by omega)]; simp [wOk, q]
     ·rw [if_neg (by omega)]; simp [wOk, q]
  exact inner n 0 k (by omega) (by omega)
theorem spec_TableOk_eq (w h : Int) (l p : List Int) (k : Nat) (hl : l.length ≤ 1048576) (hk : 1060000 < k) : spec_TableOk.f k w h l p = some (tabOk w h l p) := by
 have bc := cnt_bd w h
 obtain ⟨n, hn⟩ : ∃ n : Nat, cnt w h = (n : Int) := ⟨(cnt w h).toNat, by omega⟩
 unfold spec_TableOk.f tabOk
 rw [spec_l04Sized_eq w h l p k hl (by omega), spec_NodeCount_eq]
 simp only [Option.bind_some]
 by_cases m : meshOk w h l = true
 ·by_cases hp : (p.length : Int) = cnt w h * cnt w h
  ·have hpN : p.length = n * n := by rw [hn] at hp; exact_mod_cast hp
   have e9 := spec_TableOk_loops w h l p n hn hl m hpN n 0 (by omega) k (by omega)
   rw [show ((0 : Nat) : Int) = 0 from rfl] at e9
   rw [if_pos (by simp [m, hp]), hn, e9]
   simp [m, hpN]
  ·rw [if_neg (by simp [hp])]; simp [hp]
 ·rw [if_neg (by simp [m])]; simp [m]

theorem strict_ext {α : Type} {lt : α → α → Prop} (irr : ∀ a, ¬ lt a a) (tr : ∀ a b c, lt a b → lt b c → lt a c) : ∀ {a b : List α}, a.Pairwise lt → b.Pairwise lt → (∀ x, x ∈ a ↔ x ∈ b) → a = b
 | [], [], _, _, _ => rfl
 | [], y :: b, _, _, h => absurd ((h y).2 List.mem_cons_self) (by simp)
 | x :: a, [], _, _, h => absurd ((h x).1 List.mem_cons_self) (by simp)
 | x :: a, y :: b, ha, hb, h => by
  obtain ⟨a1, a2⟩ := List.pairwise_cons.1 ha
  obtain ⟨b1, b2⟩ := List.pairwise_cons.1 hb
  have e : x = y := by
   rcases List.mem_cons.1 ((h x).1 List.mem_cons_self) with e | e
   ·exact e
   ·rcases List.mem_cons.1 ((h y).2 List.mem_cons_self) with e2 | e2
    ·exact e2.symm
    ·exact absurd (tr _ _ _ (b1 x e) (a1 y e2)) (irr y)
  subst e
  rw [strict_ext irr tr a2 b2 fun z => ⟨fun hz => ?_, fun hz => ?_⟩]
  ·rcases List.mem_cons.1 ((h z).1 (List.mem_cons_of_mem _ hz)) with e | e
   ·subst e; exact absurd (a1 z hz) (irr z)
   ·exact e
  ·rcases List.mem_cons.1 ((h z).2 (List.mem_cons_of_mem _ hz)) with e | e
   ·subst e; exact absurd (b1 z hz) (irr z)
   ·exact e
theorem upTo_strict {α : Type} [Inhabited α] [DecidableEq α] {le : α → α → Prop} (anti : ∀ a b, le a b → le b a → a = b) (d : Array α) (hs : ∀ i j, i < j → j < d.size → le d[i]! d[j]!) : ∀ m, m ≤ d.size → (Lib.compactUpTo d m).Pairwise (fun a b => le a b ∧ a ≠ b) ∧ ∀ x, x ∈ Lib.compactUpTo d m ↔ ∃ j, j < m ∧ d[j]! = x := by
 intro m
 induction m with
 | zero => intro _; exact ⟨by simp [Lib.compactUpTo], by simp [Lib.compactUpTo]⟩
 | succ m ih =>
  intro hm
  obtain ⟨h1, h2⟩ := ih (by omega)
  rw [Lib.compactUpTo_succ]
  by_cases q : Lib.keeps d m = true
  ·rw [if_pos q]
   refine ⟨List.pairwise_append.2 ⟨h1, by simp, fun x hx y hy => ?_⟩, fun x => ?_⟩
   ·obtain rfl := List.mem_singleton.1 hy
    obtain ⟨j, hj, rfl⟩ := (h2 x).1 hx
    refine ⟨hs j m hj (by omega), fun e => ?_⟩
    unfold Lib.keeps at q
    rcases of_decide_eq_true q with z | z
    ·omega
    ·apply z
     have l1 : le d[m - 1]! d[m]! := hs _ _ (by omega) (by omega)
     by_cases w : j = m - 1
     ·rw [← w]; exact e.symm
     ·have l2 := hs j (m - 1) (by omega) (by omega)
      rw [e] at l2
      exact anti _ _ l2 l1
   ·rw [List.mem_append, List.mem_singleton, h2]
    constructor
    ·rintro (⟨j, hj, e⟩ | e)
     ·exact ⟨j, by omega, e⟩
     ·exact ⟨m, by omega, e.symm⟩
    ·rintro ⟨j, hj, e⟩
     by_cases z : j = m
     ·subst z; exact Or.inr e.symm
     ·exact Or.inl ⟨j, by omega, e⟩
  ·rw [if_neg q, List.append_nil]
   refine ⟨h1, fun x => ?_⟩
   rw [h2]
   constructor
   ·rintro ⟨j, hj, e⟩; exact ⟨j, by omega, e⟩
   ·rintro ⟨j, hj, e⟩
    by_cases z : j = m
    ·unfold Lib.keeps at q
     have q2 : ¬ (m = 0 ∨ d[m]! ≠ d[m - 1]!) := fun w => q (decide_eq_true w)
     rw [not_or] at q2
     exact ⟨m - 1, by omega, by rw [← e, z]; exact (Classical.not_not.1 q2.2).symm⟩
    ·exact ⟨j, by omega, e⟩
theorem compact_strict {α : Type} [Inhabited α] [DecidableEq α] {le : α → α → Bool} (tr : ∀ a b c, le a b = true → le b c = true → le a c = true) (tot : ∀ a b, (le a b || le b a) = true) (anti : ∀ a b, le a b = true → le b a = true → a = b) (l : List α) : (Lib.compact (l.mergeSort le)).Pairwise (fun a b => le a b = true ∧ a ≠ b) ∧ ∀ x, x ∈ Lib.compact (l.mergeSort le) ↔ x ∈ l := by
 have hp := List.pairwise_mergeSort tr tot l
 have hs : ∀ i j, i < j → j < (l.mergeSort le).toArray.size → le (l.mergeSort le).toArray[i]! (l.mergeSort le).toArray[j]! = true := by
  intro i j hij hj
  have hj' : j < (l.mergeSort le).length := by simpa using hj
  rw [getElem!_pos _ i (by simp at hj ⊢; omega), getElem!_pos _ j hj]
  exact List.pairwise_iff_getElem.1 hp i j (by omega) hj' hij
 obtain ⟨h1, h2⟩ := upTo_strict (le := fun a b => le a b = true) anti (l.mergeSort le).toArray hs (l.mergeSort le).length (by simp)
 refine ⟨h1, fun x => (h2 x).trans ?_⟩
 rw [← List.mem_mergeSort (le := le), List.mem_iff_getElem]
 constructor
 ·rintro ⟨j, hj, e⟩
  refine ⟨j, hj, ?_⟩
  rw [← e, getElem!_pos _ j (by simpa using hj)]
  simp
 ·rintro ⟨j, hj, e⟩
  refine ⟨j, hj, ?_⟩
  rw [← e, getElem!_pos _ j (by simpa using hj)]
  simp

/-- the visits of a table: each two adjacent channels of each walk -/
def vis (w h : Int) (l p : List Int) : List (Int × Int) := (pall (cnt w h).toNat 0).flatMap fun e => adf (wt w h l p e.1 e.2) 1
theorem adf_len (x : List Int) (i : Nat) : (adf x i).length ≤ x.length := by unfold adf; simp
theorem adf_mem {x : List Int} {i : Nat} {q : Int × Int} (hi : 1 ≤ i) (h : q ∈ adf x i) : q.1 ∈ x ∧ q.2 ∈ x := by
 unfold adf at h
 obtain ⟨j, hj, rfl⟩ := List.mem_map.1 h
 obtain ⟨d, hd, rfl⟩ := List.mem_range'.1 hj
 constructor
 ·simp only; rw [rd_nat _ _ (by omega)]; exact List.getElem_mem _
 ·simp only; rw [rd_nat _ _ (by omega)]; exact List.getElem_mem _
theorem impl_adj_eq (w h : Int) (l p : List Int) (k : Nat) (hl : l.length ≤ 1048576) (m : meshOk w h l = true) (hp : (p.length : Int) = cnt w h * cnt w h) (hk : 1048700 < k) : ∀ r : List (Int × Int), (∀ e ∈ r, e.1 ≠ e.2 ∧ nd w h e.1 = true ∧ nd w h e.2 = true) → impl_adjacent.wk k w h l p r = some (r.flatMap fun e => adf (wt w h l p e.1 e.2) 1)
 | [], _ => rfl
 | (a, b) :: r, hr => by
  have h1 := hr (a, b) List.mem_cons_self
  simp only at h1
  unfold impl_adjacent.wk
  rw [impl_WalkTable_eq w h l p a b k hl hk, show wtb w h l p a b = wt w h l p a b by unfold wtb; simp [h1.1, m, h1.2.1, h1.2.2, hp]]
  simp only [Option.bind_some]
  rw [impl_adj_eq w h l p k hl m hp hk r (fun e he => hr e (List.mem_cons_of_mem _ he))]
  rfl
theorem hasC_64 {w h : Int} {l : List Int} {c : Int} (q : hasC w h l c = true) : 0 ≤ c ∧ c < 64 := by
 unfold hasC at q
 simp only [Bool.and_eq_true] at q
 have b := leads_iff.1 q.2.1
 have := cnt_bd w h
 omega
theorem wlk_bd (w h : Int) (l p : List Int) (t : Int) : ∀ (d : Nat) (a : Int) (out : List Int), (∀ c ∈ out, 0 ≤ c ∧ c < 64) → ∀ c ∈ wlk w h l p t d a out, 0 ≤ c ∧ c < 64
 | 0, a, out, ho, c, hc => by
  unfold wlk at hc
  split at hc
  ·split at hc
   ·exact ho c hc
   ·simp at hc
  ·simp at hc
 | d + 1, a, out, ho, c, hc => by
  unfold wlk at hc
  split at hc
  ·split at hc
   ·exact ho c hc
   ·simp at hc
  ·split at hc
   ·rename_i z
    simp only [Bool.and_eq_true] at z
    have b := hasC_64 z.2
    refine wlk_bd w h l p t d _ _ (fun c hc => ?_) c hc
    rcases List.mem_append.1 hc with hc | hc
    ·exact ho c hc
    ·obtain rfl := List.mem_singleton.1 hc
     exact b
   ·simp at hc
theorem wt_bd {w h : Int} {l p : List Int} {a b c : Int} (hc : c ∈ wt w h l p a b) : 0 ≤ c ∧ c < 64 := wlk_bd w h l p b _ a [] (by simp) c hc
theorem vis_bd {w h : Int} {l p : List Int} {q : Int × Int} (hq : q ∈ vis w h l p) : (0 ≤ q.1 ∧ q.1 < 64) ∧ 0 ≤ q.2 ∧ q.2 < 64 := by
 unfold vis at hq
 obtain ⟨e, he, hq⟩ := List.mem_flatMap.1 hq
 have z := adf_mem (by omega) hq
 exact ⟨wt_bd z.1, wt_bd z.2⟩
theorem flat_len (f : Int × Int → List (Int × Int)) (K : Nat) (hf : ∀ e, (f e).length ≤ K) : ∀ r : List (Int × Int), (r.flatMap f).length ≤ K * r.length
 | [] => by simp
 | e :: r => by
  have h1 := flat_len f K hf r
  have h2 := hf e
  rw [List.flatMap_cons, List.length_append, List.length_cons, Nat.mul_succ]
  omega
theorem pall_len (n i : Nat) : (pall n i).length ≤ n * (n - i) := by
 unfold pall
 have key : ∀ (L : List Nat), (L.flatMap fun a => prow n a 0).length ≤ n * L.length := by
  intro L
  induction L with
  | nil => simp
  | cons a L ih =>
   rw [List.flatMap_cons, List.length_append, List.length_cons, Nat.mul_succ]
   have h2 : (prow n a 0).length ≤ n := by
    unfold prow
    rw [List.length_map]
    have := List.length_filter_le (fun (b : Nat) => decide (a ≠ b)) (List.range' 0 (n - 0))
    rw [List.length_range'] at this
    omega
   omega
 have h := key (List.range' i (n - i))
 rw [List.length_range'] at h
 exact h
theorem vis_len (w h : Int) (l p : List Int) : (vis w h l p).length ≤ 4096 := by
 have bc := cnt_bd w h
 have h1 := flat_len (fun e => adf (wt w h l p e.1 e.2) 1) 16 (fun e => by have a := adf_len (wt w h l p e.1 e.2) 1; have b := wt_len w h l p e.1 e.2; omega) (pall (cnt w h).toNat 0)
 have h2 := pall_len (cnt w h).toNat 0
 have h3 : (cnt w h).toNat * ((cnt w h).toNat - 0) ≤ 16 * 16 := Nat.mul_le_mul (by omega) (by omega)
 unfold vis
 omega

def ltp (p q : S83) : Bool := decide (p.f0 < q.f0) || (decide (p.f0 = q.f0) && decide (p.f1 < q.f1))
def inp (p : S83) : Bool := inR p.f0 0 127 && inR p.f1 0 127
def depFrom : Option S83 → List S83 → Bool
 | _, [] => true
 | none, c :: r => inp c && depFrom (some c) r
 | some q, c :: r => inp c && (ltp q c && depFrom (some c) r)
def depOk (l : List S83) : Bool := depFrom none l

theorem ltp_iff {p q : S83} : ltp p q = true ↔ p.f0 < q.f0 ∨ (p.f0 = q.f0 ∧ p.f1 < q.f1) := by unfold ltp; simp
theorem ltp_irr (p : S83) : ¬ ltp p p = true := by rw [ltp_iff]; omega
theorem ltp_tr (a b c : S83) (h1 : ltp a b = true) (h2 : ltp b c = true) : ltp a c = true := by rw [ltp_iff] at *; omega
theorem dep_ext {p q : S83} (h0 : p.f0 = q.f0) (h1 : p.f1 = q.f1) : p = q := by cases p; cases q; simp_all
theorem ltp_tot {p q : S83} (h1 : ¬ ltp p q = true) (h2 : ¬ p = q) : ltp q p = true := by
 rw [ltp_iff] at *
 by_cases e : p.f0 = q.f0
 ·by_cases e1 : p.f1 = q.f1
  ·exact absurd (dep_ext e e1) h2
  ·omega
 ·omega
theorem depLe_iff {p q : S83} : depLe p q = true ↔ p.f0 < q.f0 ∨ (p.f0 = q.f0 ∧ p.f1 ≤ q.f1) := by unfold depLe; exact decide_eq_true_iff
theorem depIn_eq (p : S83) : depIn p = inp p := by
 unfold depIn inp inR
 by_cases h : 0 ≤ p.f0 ∧ p.f0 ≤ 127 ∧ 0 ≤ p.f1 ∧ p.f1 ≤ 127
 ·rw [decide_eq_true h]; simp [h]
 ·rw [decide_eq_false h]
  simp only [Bool.false_eq, Bool.and_eq_false_iff, decide_eq_false_iff_not]
  omega
/-- the list in ascending order, each once -/
def dsort (l : List S83) : List S83 := Lib.compact (l.mergeSort depLe)
theorem dsort_ok (l : List S83) : (dsort l).Pairwise (fun a b => ltp a b = true) ∧ ∀ x, x ∈ dsort l ↔ x ∈ l := by
 obtain ⟨h1, h2⟩ := compact_strict (le := depLe) (fun a b c h1 h2 => by rw [depLe_iff] at *; omega) (fun a b => by rw [Bool.or_eq_true, depLe_iff, depLe_iff]; omega) (fun a b h1 h2 => by rw [depLe_iff] at *; exact dep_ext (by omega) (by omega)) l
 refine ⟨h1.imp ?_, h2⟩
 rintro a b ⟨h3, h4⟩
 rw [depLe_iff] at h3
 rw [ltp_iff]
 by_cases e : a.f0 = b.f0
 ·by_cases e1 : a.f1 = b.f1
  ·exact absurd (dep_ext e e1) h4
  ·omega
 ·omega
theorem dsort_len (l : List S83) : (dsort l).length ≤ l.length := by
 unfold dsort Lib.compact Lib.compactUpTo
 rw [List.length_map]
 have h := List.length_filter_le (Lib.keeps (l.mergeSort depLe).toArray) (List.range (l.mergeSort depLe).length)
 rw [List.length_range, List.length_mergeSort] at h
 rw [List.length_mergeSort]
 exact h
theorem asc_ext {a b : List S83} (ha : a.Pairwise (fun a b => ltp a b = true)) (hb : b.Pairwise (fun a b => ltp a b = true)) (h : ∀ x, x ∈ a ↔ x ∈ b) : a = b := strict_ext ltp_irr ltp_tr ha hb h
theorem impl_arranged_eq (l : List S83) (hl : l.length ≤ 100000000) (h : ∀ p ∈ l, inp p = true) : impl_arranged.f l = some (dsort l) := by
 unfold impl_arranged.f
 rw [if_pos (List.all_eq_true.2 fun p hp => by rw [depIn_eq]; exact h p hp), if_pos hl]
 rfl

def mkd (V : List (Int × Int)) : List S83 := V.map fun q => ⟨q.1, q.2⟩
def depsM (w h : Int) (l p : List Int) : List S83 := if tabOk w h l p = true then dsort (mkd (vis w h l p)) else []
theorem mkd_in {w h : Int} {l p : List Int} {x : S83} (hx : x ∈ mkd (vis w h l p)) : inp x = true := by
 unfold mkd at hx
 obtain ⟨q, hq, rfl⟩ := List.mem_map.1 hx
 have b := vis_bd hq
 unfold inp inR
 simp only [Bool.and_eq_true, decide_eq_true_eq]
 omega
theorem impl_DependsOf_eq (w h : Int) (l p : List Int) (k : Nat) (hl : l.length ≤ 1048576) (hk : 1060000 < k) : impl_DependsOf.f k w h l p = some (depsM w h l p) := by
 have bc := cnt_bd w h
 unfold impl_DependsOf.f depsM
 rw [impl_TableOk_eq w h l p k hl hk]
 simp only [Option.bind_some]
 by_cases t : tabOk w h l p = true
 ·have t3 := t
  unfold tabOk at t3
  simp only [Bool.and_eq_true, decide_eq_true_eq] at t3
  rw [if_pos t, if_pos t, impl_NodeCount_eq]
  simp only [Option.bind_some]
  rw [impl_adj_eq w h l p k hl t3.1 t3.2.1 (by omega) (pall (cnt w h).toNat 0) (fun e he => pall_mem (n := (cnt w h).toNat) (by omega) he)]
  simp only [Option.bind_some]
  have vl := vis_len w h l p
  have e1 := impl_arranged_eq (mkd (vis w h l p)) (by unfold mkd; rw [List.length_map]; omega) (fun x hx => mkd_in hx)
  have e2 : mkd (vis w h l p) = (vis w h l p).foldl impl_DependsOf.st [] := by rw [impl_DependsOf.st_fold]; rfl
  rw [e2] at e1 ⊢
  unfold vis at vl e1 ⊢
  rw [if_pos (by omega), e1]
 ·rw [if_neg t, if_neg t]
theorem depsM_len (w h : Int) (l p : List Int) : (depsM w h l p).length ≤ 4096 := by
 unfold depsM
 split
 ·have h1 := dsort_len (mkd (vis w h l p))
  have h2 := vis_len w h l p
  unfold mkd at *
  rw [List.length_map] at h1
  omega
 ·simp

theorem l08Less_eq (p q : S83) : spec_l08Less.f p.f0 p.f1 q.f0 q.f1 = some (ltp p q) := by
 unfold spec_l08Less.f ltp
 by_cases c : p.f0 < q.f0
 ·rw [if_pos c]; simp [c]
 ·rw [if_neg c]
  by_cases c2 : p.f0 = q.f0
  ·rw [if_pos c2]; simp [c2]
  ·rw [if_neg c2]; simp [c, c2]
theorem put_loop (l : List S83) (d : S83) (hn : l.length ≤ 1048576) (hs : l.Pairwise (fun a b => ltp a b = true)) : ∀ (j k : Nat), j ≤ l.length → j < k → (∀ x ∈ l.drop j, ltp d x = true) → ∃ r, spec_l08Put.l0 k l (j : Int) d.f0 d.f1 = some r ∧ r.Pairwise (fun a b => ltp a b = true) ∧ (∀ x, x ∈ r ↔ x = d ∨ x ∈ l) ∧ r.length ≤ l.length + 1 := by
 have ins : ∀ j : Nat, j ≤ l.length → (∀ x ∈ l.take j, ltp x d = true) → (∀ x ∈ l.drop j, ltp d x = true) → (l.take j ++ [d] ++ l.drop j).Pairwise (fun a b => ltp a b = true) ∧ (∀ x, x ∈ l.take j ++ [d] ++ l.drop j ↔ x = d ∨ x ∈ l) := by
  intro j hj h1 h2
  have hs2 := hs
  rw [← List.take_append_drop j l, List.pairwise_append] at hs2
  refine ⟨List.pairwise_append.2 ⟨List.pairwise_append.2 ⟨hs2.1, by simp, fun x hx y hy => by obtain rfl := List.mem_singleton.1 hy; exact h1 x hx⟩, hs2.2.1, fun x hx y hy => ?_⟩, fun x => ?_⟩
  ·rcases List.mem_append.1 hx with hx | hx
   ·exact hs2.2.2 x hx y hy
   ·obtain rfl := List.mem_singleton.1 hx; exact h2 y hy
  ·have e : x ∈ l ↔ x ∈ l.take j ∨ x ∈ l.drop j := by rw [← List.mem_append, List.take_append_drop]
   rw [e]
   simp only [List.mem_append, List.mem_singleton]
   constructor
   ·rintro ((h | h) | h)
    ·exact Or.inr (Or.inl h)
    ·exact Or.inl h
    ·exact Or.inr (Or.inr h)
   ·rintro (h | h | h)
    ·exact Or.inl (Or.inr h)
    ·exact Or.inl (Or.inl h)
    ·exact Or.inr h
 intro j
 induction j with
 | zero =>
  intro k hj hk hd
  obtain ⟨k, rfl⟩ : ∃ m, k = m + 1 := ⟨k - 1, by omega⟩
  have i := ins 0 hj (by simp) hd
  simp only [spec_l08Put.l0]
  rw [if_neg (by omega)]
  simp only [Option.bind_some]
  have e0 : (((0 : Nat) : Int)).toNat = 0 := rfl
  rw [if_pos (by omega), if_pos (by omega), e0]
  simp only [Option.bind_some, List.length_nil, List.length_take, List.length_append, List.length_drop, List.length_singleton, List.nil_append]
  rw [if_pos (by omega), if_pos (by omega), if_pos (by omega)]
  exact ⟨_, rfl, i.1, i.2, by simp⟩
 | succ j ih =>
  intro k hj hk hd
  obtain ⟨k, rfl⟩ : ∃ m, k = m + 1 := ⟨k - 1, by omega⟩
  simp only [spec_l08Put.l0]
  rw [if_pos (by omega), w64p (by omega) (by omega), if_pos (by omega), if_pos (by omega)]
  simp only [Nat.add_sub_cancel]
  rw [l08Less_eq d (rd_T83 l (j : Int)), rdp_nat l j (by omega)]
  simp only [Option.bind_some]
  by_cases c : ltp d l[j] = true
  ·rw [if_pos c]
   exact ih k (by omega) (by omega) (fun x hx => by
    rw [List.drop_eq_getElem_cons (show j < l.length by omega)] at hx
    rcases List.mem_cons.1 hx with rfl | hx
    ·exact c
    ·exact hd x hx)
  ·rw [if_neg c]
   by_cases z : l[j] = d
   ·rw [if_pos (by rw [z]; simp)]
    exact ⟨l, rfl, hs, fun x => ⟨Or.inr, fun h => by rcases h with rfl | h; exact z ▸ List.getElem_mem _; exact h⟩, by omega⟩
   ·rw [if_neg (by simp only [Bool.and_eq_true, beq_iff_eq]; rintro ⟨h0, h1⟩; exact z (dep_ext h0 h1))]
    have lt := ltp_tot c (fun e => z e.symm)
    have i := ins (j + 1) hj (fun x hx => by
     rw [List.take_succ_eq_append_getElem (show j < l.length by omega)] at hx
     rcases List.mem_append.1 hx with hx | hx
     ·have hs2 := hs
      rw [← List.take_append_drop j l, List.pairwise_append] at hs2
      exact ltp_tr _ _ _ (hs2.2.2 x hx l[j] (by rw [List.drop_eq_getElem_cons (show j < l.length by omega)]; exact List.mem_cons_self)) lt
     ·obtain rfl := List.mem_singleton.1 hx; exact lt) hd
    have e0 : (((j + 1 : Nat) : Int)).toNat = j + 1 := by simp
    rw [if_pos (by omega), if_pos (by omega), e0]
    simp only [Option.bind_some, List.length_nil, List.length_take, List.length_append, List.length_drop, List.length_singleton, List.nil_append]
    rw [if_pos (by omega), if_pos (by omega), if_pos (by omega)]
    exact ⟨_, rfl, i.1, i.2, by simp; omega⟩
theorem put_ok (l : List S83) (a b : Int) (k : Nat) (hn : l.length ≤ 1048576) (hk : 1048577 < k) (hs : l.Pairwise (fun a b => ltp a b = true)) : ∃ r, spec_l08Put.f k l a b = some r ∧ r.Pairwise (fun a b => ltp a b = true) ∧ (∀ x, x ∈ r ↔ x = ⟨a, b⟩ ∨ x ∈ l) ∧ r.length ≤ l.length + 1 := by
 unfold spec_l08Put.f
 exact put_loop l ⟨a, b⟩ hn hs l.length k (Nat.le_refl _) (by omega) (by simp)

theorem sq_all (n : Nat) (f : Int → Int → Bool) (hd : ∀ a : Nat, a < n → f (a : Int) (a : Int) = true) : ((List.range' 0 (n * n)).all fun (j : Nat) => f ((j / n : Nat) : Int) ((j % n : Nat) : Int)) = ((pall n 0).all fun e => f e.1 e.2) := by
 rw [pall_all n 0 f, Bool.eq_iff_iff]
 simp only [List.all_eq_true, List.mem_range', Nat.sub_zero, Bool.or_eq_true, decide_eq_true_eq]
 constructor
 ·rintro H a ⟨i, hi, rfl⟩ b ⟨j, hj, rfl⟩
  simp only [Nat.zero_add, Nat.one_mul] at *
  have b1 : i * n + j < n * n := by
   have : (i + 1) * n ≤ n * n := Nat.mul_le_mul_right _ hi
   rw [Nat.succ_mul] at this; omega
  have t := H (i * n + j) ⟨i * n + j, b1, rfl⟩
  have e1 : (i * n + j) / n = i := by rw [Nat.mul_comm, Nat.mul_add_div (by omega), Nat.div_eq_of_lt hj]; omega
  have e2 : (i * n + j) % n = j := by rw [Nat.mul_comm, Nat.mul_add_mod, Nat.mod_eq_of_lt hj]
  rw [e1, e2] at t
  exact Or.inr t
 ·rintro H j ⟨i, hi, rfl⟩
  simp only [Nat.zero_add, Nat.one_mul] at *
  have h1 : i / n < n := Nat.div_lt_of_lt_mul hi
  have h2 : i % n < n := Nat.mod_lt _ (Nat.pos_of_ne_zero (fun z => by subst z; simp at hi))
  rcases H (i / n) ⟨i / n, h1, rfl⟩ (i % n) ⟨i % n, h2, rfl⟩ with t | t
  ·rw [← t]; exact hd _ h1
  ·exact t
def sqv (w h : Int) (l p : List Int) (n i d : Nat) : List (Int × Int) := (List.range' i d).flatMap fun (j : Nat) => adf (wt w h l p ((j / n : Nat) : Int) ((j % n : Nat) : Int)) 1

theorem sqv_mem (w h : Int) (l p : List Int) (n : Nat) (hn : cnt w h = (n : Int)) (t : tabOk w h l p = true) (q : Int × Int) : q ∈ sqv w h l p n 0 (n * n) ↔ q ∈ vis w h l p := by
 have key : ∀ L : List (Int × Int), q ∈ L ↔ ¬ (L.all fun x => !decide (x = q)) = true := fun L => by
  rw [List.all_eq_true]
  constructor
  ·intro h h2
   have := h2 q h
   simp at this
  ·intro h
   apply Classical.byContradiction
   intro hn
   refine h (fun x hx => ?_)
   have hne : ¬ x = q := fun e => hn (by rw [← e]; exact hx)
   simp [hne]
 rw [key, key]
 unfold sqv vis
 rw [List.all_flatMap, List.all_flatMap, hn, Int.toNat_natCast]
 rw [sq_all n (fun a b => (adf (wt w h l p a b) 1).all fun x => !decide (x = q)) (fun a ha => by rw [tab_diag hn t ha]; rfl)]
theorem spec_deps_in (w h : Int) (l p x : List Int) (n zi : Int) (hxl : x.length ≤ 100) : ∀ (d i K : Nat) (L : List S83), 1 ≤ i → (i + d = x.length ∨ (x.length ≤ i ∧ d = 0)) → L.length + d ≤ 1000000 → 1048600 < K → L.Pairwise (fun a b => ltp a b = true) → ∃ L', spec_DependsOf.l1 (K + d + 1) L n zi x (i : Int) w h l p = spec_DependsOf.l0 K L' n (wrap64 (zi + 1)) w h l p ∧ L'.Pairwise (fun a b => ltp a b = true) ∧ (∀ y, y ∈ L' ↔ y ∈ mkd (adf x i) ∨ y ∈ L) ∧ L'.length ≤ L.length + d := by
 intro d
 induction d with
 | zero =>
  intro i K L hi hd hL hK hs
  simp only [spec_DependsOf.l1]
  rw [if_neg (by omega), adf_end (by omega)]
  exact ⟨L, rfl, hs, by simp [mkd], by omega⟩
 | succ d ih =>
  intro i K L hi hd hL hK hs
  have hlt : i < x.length := by omega
  obtain ⟨M, hM⟩ : ∃ M, M = K + d + 1 := ⟨_, rfl⟩
  rw [show K + (d + 1) + 1 = M + 1 by omega]
  simp only [spec_DependsOf.l1]
  obtain ⟨r, e, r1, r2, r3⟩ := put_ok L (rd x ((i - 1 : Nat) : Int)) (rd x (i : Int)) M (by omega) (by omega) hs
  rw [if_pos (by omega), w64p (by omega) (by omega), if_pos (by omega), if_pos (by omega), if_pos (by omega), e]
  simp only [Option.bind_some]
  rw [w64s (by omega), hM]
  obtain ⟨L', e2, p1, p2, p3⟩ := ih (i + 1) K r (by omega) (by omega) (by omega) hK r1
  refine ⟨L', e2, p1, fun y => ?_, by omega⟩
  rw [p2, r2, adf_lt hlt]
  simp only [mkd, List.map_cons, List.mem_cons]
  constructor
  ·rintro (h | h | h)
   ·exact Or.inl (Or.inr h)
   ·exact Or.inl (Or.inl h)
   ·exact Or.inr h
  ·rintro ((h | h) | h)
   ·exact Or.inr (Or.inl h)
   ·exact Or.inl h
   ·exact Or.inr (Or.inr h)
theorem spec_deps_loop (w h : Int) (l p : List Int) (n : Nat) (hn : cnt w h = (n : Int)) (hl : l.length ≤ 1048576) (m : meshOk w h l = true) (hp : (p.length : Int) = cnt w h * cnt w h) : ∀ (d i k : Nat) (L : List S83), i + d = n * n → 1049000 + 30 * d < k → L.length + 20 * d ≤ 900000 → L.Pairwise (fun a b => ltp a b = true) → ∃ L', spec_DependsOf.l0 k L (n : Int) (i : Int) w h l p = some L' ∧ L'.Pairwise (fun a b => ltp a b = true) ∧ (∀ y, y ∈ L' ↔ y ∈ mkd (sqv w h l p n i d) ∨ y ∈ L) := by
 have bc := cnt_bd w h
 have hc : n * n ≤ 16 * 16 := Nat.mul_le_mul (by omega) (by omega)
 have e1 : wrap64 ((n : Int) * (n : Int)) = ((n * n : Nat) : Int) := by rw [show (n : Int) * (n : Int) = ((n * n : Nat) : Int) by simp]; exact wrap64_id (by omega) (by omega)
 intro d
 induction d with
 | zero =>
  intro i k L hi hk hL hs
  obtain ⟨k, rfl⟩ : ∃ m, k = m + 1 := ⟨k - 1, by omega⟩
  simp only [spec_DependsOf.l0]
  rw [e1, if_neg (by omega)]
  exact ⟨L, rfl, hs, by simp [sqv, mkd]⟩
 | succ d ih =>
  intro i k L hi hk hL hs
  obtain ⟨k, rfl⟩ : ∃ m, k = m + 1 := ⟨k - 1, by omega⟩
  have hlt : i < n * n := by omega
  have n0 : 0 < n := Nat.pos_of_ne_zero (fun z => by subst z; simp at hlt)
  have h1 : i / n < n := Nat.div_lt_of_lt_mul hlt
  have h2 : i % n < n := Nat.mod_lt _ n0
  simp only [spec_DependsOf.l0]
  have b0 : (0 : Int) ≤ ((i / n : Nat) : Int) := Int.natCast_nonneg _
  have b1 : ((i / n : Nat) : Int) < (n : Int) := Int.ofNat_lt.2 h1
  have ed : wrap64 (Int.tdiv (i : Int) (n : Int)) = ((i / n : Nat) : Int) := by
   rw [tdiv_of (by omega), ← Int.natCast_ediv]
   exact wrap64_id (by omega) (by omega)
  have em : Int.tmod (i : Int) (n : Int) = ((i % n : Nat) : Int) := by rw [tmod_of (by omega), ← Int.natCast_emod]
  rw [e1, if_pos (by omega), if_neg (by omega), ed, em, spec_l04Walk_eq w h l p _ _ k hl m (nd_nat hn h1) (nd_nat hn h2) hp (by omega)]
  simp only [Option.bind_some]
  have wl := wt_len w h l p ((i / n : Nat) : Int) ((i % n : Nat) : Int)
  obtain ⟨d2, hd2⟩ : ∃ d2, d2 = (wt w h l p ((i / n : Nat) : Int) ((i % n : Nat) : Int)).length - 1 := ⟨_, rfl⟩
  obtain ⟨K, rfl⟩ : ∃ K, k = K + d2 + 1 := ⟨k - d2 - 1, by omega⟩
  obtain ⟨L1, e5, q1, q2, q3⟩ := spec_deps_in w h l p (wt w h l p ((i / n : Nat) : Int) ((i % n : Nat) : Int)) (n : Int) (i : Int) (by omega) d2 1 K L (by omega) (by omega) (by omega) (by omega) hs
  rw [show ((1 : Nat) : Int) = 1 from rfl] at e5
  obtain ⟨L2, e6, r1, r2⟩ := ih (i + 1) K L1 (by omega) (by omega) (by omega) q1
  rw [e5, w64s (by omega)]
  refine ⟨L2, e6, r1, fun y => ?_⟩
  rw [r2, q2]
  unfold sqv mkd
  rw [List.range'_succ, List.flatMap_cons, List.map_append, List.mem_append]
  constructor
  ·rintro (h | h | h)
   ·exact Or.inl (Or.inr h)
   ·exact Or.inl (Or.inl h)
   ·exact Or.inr h
  ·rintro ((h | h) | h)
   ·exact Or.inr (Or.inl h)
   ·exact Or.inl h
   ·exact Or.inr (Or.inr h)
theorem spec_DependsOf_eq (w h : Int) (l p : List Int) (k : Nat) (hl : l.length ≤ 1048576) (hk : 1100000 < k) : spec_DependsOf.f k w h l p = some (depsM w h l p) := by
 have bc := cnt_bd w h
 obtain ⟨n, hn⟩ : ∃ n : Nat, cnt w h = (n : Int) := ⟨(cnt w h).toNat, by omega⟩
 have hc : n * n ≤ 16 * 16 := Nat.mul_le_mul (by omega) (by omega)
 unfold spec_DependsOf.f depsM
 simp only [Option.bind_some]
 rw [spec_TableOk_eq w h l p k hl (by omega)]
 simp only [Option.bind_some]
 by_cases t : tabOk w h l p = true
 ·have t3 := t
  unfold tabOk at t3
  simp only [Bool.and_eq_true, decide_eq_true_eq] at t3
  rw [if_pos t, if_pos t, spec_NodeCount_eq, hn]
  simp only [Option.bind_some]
  obtain ⟨L, e, h1, h2⟩ := spec_deps_loop w h l p n hn hl t3.1 t3.2.1 (n * n) 0 k [] (by omega) (by omega) (by simp; omega) (by simp)
  rw [show ((0 : Nat) : Int) = 0 from rfl] at e
  rw [e]
  congr 1
  obtain ⟨g1, g2⟩ := dsort_ok (mkd (vis w h l p))
  refine asc_ext h1 g1 fun y => ?_
  rw [h2, g2]
  simp only [List.not_mem_nil, or_false]
  unfold mkd
  simp only [List.mem_map]
  constructor
  ·rintro ⟨q, hq, e⟩; exact ⟨q, (sqv_mem w h l p n hn t q).1 hq, e⟩
  ·rintro ⟨q, hq, e⟩; exact ⟨q, (sqv_mem w h l p n hn t q).2 hq, e⟩
 ·rw [if_neg t, if_neg t]

theorem FnExactDependsOf : laws_FnExactDependsOf.Pure := by
 intro w h l p _ _ hl _ hp _
 obtain ⟨k, hk⟩ : ∃ k : Nat, 4000000 ≤ k := ⟨_, Nat.le_refl _⟩
 refine ⟨k + 1, ?_⟩
 unfold laws_FnExactDependsOf.f
 rw [szMesh_eq w h l 1048576 (by omega) hl]
 simp only [Option.bind_some]
 by_cases c : (l.length : Int) ≤ 1048576
 ·rw [if_pos c, if_neg (by omega), szTable_eq p _ (by omega) hp]
  simp only [Option.bind_some]
  by_cases c2 : (p.length : Int) ≤ 1048576 - l.length
  ·rw [if_pos c2, if_neg (by omega)]
   have hs := depsM_len w h l p
   obtain ⟨r, m1⟩ := mark_any l 1 (k + 1) (by omega) (by omega) (by omega)
   rw [show ((1 : Nat) : Int) = 1 from rfl] at m1
   have m1' : laws_markMesh.f (k + 1) w h l 1 = some (((1 + l.length : Nat) : Int), r) := by unfold laws_markMesh.f; rw [m1]; rfl
   obtain ⟨r3, m4⟩ := mark_table p (1 + l.length) (k + 1) (by omega) (by omega) (by omega)
   obtain ⟨r2, m2, m3⟩ := mark_heldp (depsM w h l p) k (by omega) (by omega)
   simp only [toMesh_eq w h l (k + 1) (by omega) (by omega), toTable_eq p (k + 1) (by omega) (by omega), spec_DependsOf_eq w h l p (k + 1) (by omega) (by omega), impl_DependsOf_eq w h l p (k + 1) (by omega) (by omega), eqDependS_self (depsM w h l p) (k + 1) (by omega) (by omega), eqMesh_self w h l (k + 1) (by omega) (by omega), eqTable_self p (k + 1) (by omega) (by omega), m1', m4, Option.bind_some, if_true]
   rw [if_neg (by omega)]
   simp only [laws_FnExactDependsOf.j0, m2, m3, toMesh_eq w h l k (by omega) (by omega), toTable_eq p k (by omega) (by omega), impl_DependsOf_eq w h l p k (by omega) (by omega), eqDependS_self (depsM w h l p) k (by omega) (by omega), Option.bind_some, if_true]
   rw [if_neg (by simp), if_neg (by omega), if_neg (by omega)]
  ·rw [if_neg c2, if_pos (by omega)]
 ·rw [if_neg c, if_pos (by omega)]

end Go.Proofs.Ytmfkgnfjjfnfmaa.Pure
