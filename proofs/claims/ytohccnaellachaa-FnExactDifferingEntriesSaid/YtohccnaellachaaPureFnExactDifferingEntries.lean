/- What is proved: the statement FnExactDifferingEntries, in its pure form, over numbers and lists: the program's and the reference's DifferingEntries agree for all tables, and the arguments stay (no conditions). -/
import Derived.Test.YtohccnaellachaaX10
import Derived.Test.YtohccnaellachaaModel
set_option linter.unusedVariables false
set_option linter.unusedSimpArgs false
namespace Go.Proofs.Ytohccnaellachaa.Pure
open Go.RowKit Go.Proofs.Ytohccnaellachaa.X Go.Proofs.Ytohccnaellachaa.M Go.Proofs.YtohccnaellachaaW.PrintWords Go.Proofs.YtohccnaellachaaW.PrintLast
theorem rd_nat (l : List Int) (i : Nat) (h : i < l.length) : rd l (i : Int) = l[i] := by unfold rd; simp [h]
theorem drop_rd (l : List Int) (i : Nat) (h : i < l.length) : l.drop i = rd l (i : Int) :: l.drop (i + 1) := by
  rw [rd_nat l i h]; exact List.drop_eq_getElem_cons h
theorem w64s {i : Nat} (h : i ≤ 9223372036854775806) : wrap64 ((i : Int) + 1) = ((i + 1 : Nat) : Int) := by rw [wrap64_id (by omega) (by omega)]; omega
theorem w64p {i : Nat} (h : i ≤ 9223372036854775806) (h0 : 0 < i) : wrap64 ((i : Int) - 1) = ((i - 1 : Nat) : Int) := by rw [wrap64_id (by omega) (by omega)]; omega

theorem toIntS_loop (x0 : List Int) (hn : x0.length ≤ 9223372036854775806) : ∀ (d i k : Nat) (x3 : List Int), i + d = x0.length → d < k → x3.length = x0.length → (∀ j, j < i → x3[j]? = x0[j]?) → laws_toIntS.l0 k x0 x3 (i : Int) = some x0 := by
  intro d
  induction d with
  | zero =>
    intro i k x3 hi hk hl hx
    obtain ⟨k, rfl⟩ : ∃ m, k = m + 1 := ⟨k - 1, by omega⟩
    simp only [laws_toIntS.l0]
    rw [if_neg (by omega)]
    congr 1
    apply List.ext_getElem?
    intro j
    by_cases hj : j < x0.length
    · exact hx j (by omega)
    · rw [List.getElem?_eq_none (by omega), List.getElem?_eq_none (by omega)]
  | succ d ih =>
    intro i k x3 hi hk hl hx
    obtain ⟨k, rfl⟩ : ∃ m, k = m + 1 := ⟨k - 1, by omega⟩
    simp only [laws_toIntS.l0]
    rw [if_pos (by omega), if_pos (by omega), if_pos (by omega), w64s (by omega)]
    refine ih (i + 1) k _ (by omega) (by omega) (by simpa using hl) fun j hj => ?_
    have e : ((i : Int)).toNat = i := by simp
    rw [e, List.getElem?_set]
    by_cases c : i = j
    · subst c; rw [if_pos rfl, if_pos (by omega), rd_nat _ _ (by omega), List.getElem?_eq_getElem (by omega)]
    · rw [if_neg c]; exact hx j (by omega)
theorem toIntS_eq (l : List Int) (k : Nat) (hl : l.length ≤ 1048576) (hk : 1048577 < k) : laws_toIntS.f k l = some l := by
  unfold laws_toIntS.f
  rw [if_pos (by omega), if_pos (by simp; omega)]
  exact toIntS_loop l (by omega) l.length 0 k _ (by omega) (by omega) (by simp) (by simp)

theorem eqIntS_loop (a b : List Int) (hl : a.length = b.length) (hn : a.length ≤ 9223372036854775806) : ∀ (d i k : Nat), i + d = a.length → d < k → laws_eqIntS.l0 k a b (i : Int) = some (decide (a.drop i = b.drop i)) := by
  intro d
  induction d with
  | zero =>
    intro i k hi hk
    obtain ⟨k, rfl⟩ : ∃ m, k = m + 1 := ⟨k - 1, by omega⟩
    simp only [laws_eqIntS.l0]
    rw [if_neg (by omega), List.drop_eq_nil_of_le (by omega), List.drop_eq_nil_of_le (by omega)]
    simp
  | succ d ih =>
    intro i k hi hk
    obtain ⟨k, rfl⟩ : ∃ m, k = m + 1 := ⟨k - 1, by omega⟩
    simp only [laws_eqIntS.l0]
    rw [if_pos (by omega), if_pos (by omega), if_pos (by omega), drop_rd a i (by omega), drop_rd b i (by omega)]
    by_cases c : rd a (i : Int) = rd b (i : Int)
    · rw [if_pos c, w64s (by omega), ih (i + 1) k (by omega) (by omega)]
      simp [c]
    · rw [if_neg c]; simp [c]
theorem eqIntS_eq (a b : List Int) (k : Nat) (ha : a.length ≤ 1048576) (hk : 1048577 < k) : laws_eqIntS.f k a b = some (decide (a = b)) := by
  unfold laws_eqIntS.f
  by_cases c : (a.length : Int) = (b.length : Int)
  · rw [if_pos c]
    have h := eqIntS_loop a b (by omega) (by omega) a.length 0 k (by omega) (by omega)
    simpa using h
  · rw [if_neg c]
    have : a ≠ b := fun e => c (by rw [e])
    simp [this]
theorem eqIntS_self (a : List Int) (k : Nat) (ha : a.length ≤ 1048576) (hk : 1048577 < k) : laws_eqIntS.f k a a = some true := by rw [eqIntS_eq a a k ha hk]; simp

theorem szIntS_eq (l : List Int) (a : Int) (h : 0 ≤ a ∧ a ≤ 1048576) (hl : l.length ≤ maxLen) : laws_szIntS.f l a = some (if (l.length : Int) ≤ a then a - l.length else -1) := by
  unfold maxLen at hl
  unfold laws_szIntS.f
  rw [wrap64_id (by omega) (by omega)]
  by_cases c : (l.length : Int) ≤ a
  · rw [if_neg (by omega), if_pos c]
  · rw [if_pos (by omega), if_neg c]

theorem szTable_eq (l : List Int) (a : Int) (ha : 0 ≤ a ∧ a ≤ 1048576) (hl : l.length ≤ maxLen) : laws_szTable.f l a = some (if (l.length : Int) ≤ a then a - l.length else -1) := by
  unfold laws_szTable.f
  rw [szIntS_eq l a ha hl]
  simp only [Option.bind_some]
  by_cases c : (l.length : Int) ≤ a
  · rw [if_pos c, if_neg (by omega)]
  · rw [if_neg c, if_pos (by omega)]

theorem toTable_eq (l : List Int) (k : Nat) (hl : l.length ≤ 1048576) (hk : 1048577 < k) : laws_toTable.f k l = some l := by
  unfold laws_toTable.f
  rw [toIntS_eq l k hl hk]
  rfl

theorem eqTable_eq (a b : List Int) (k : Nat) (hl : a.length ≤ 1048576) (hk : 1048577 < k) : laws_eqTable.f k a b = some (decide (a = b)) := by
  unfold laws_eqTable.f
  rw [eqIntS_eq a b k hl hk]
  by_cases c : a = b <;> simp [c]
theorem eqTable_self (l : List Int) (k : Nat) (hl : l.length ≤ 1048576) (hk : 1048577 < k) : laws_eqTable.f k l l = some true := by rw [eqTable_eq l l k hl hk]; simp

def dif : List Int → List Int → Nat
  | [], b => b.length
  | x :: a, [] => (x :: a).length
  | x :: a, y :: b => (if x = y then 0 else 1) + dif a b
def sam : List Int → List Int → Nat
  | [], _ => 0
  | _ :: _, [] => 0
  | x :: a, y :: b => (if x = y then 1 else 0) + sam a b
theorem dif_sam : ∀ a b : List Int, dif a b + sam a b = max a.length b.length
  | [], b => by simp [dif, sam]
  | x :: a, [] => by simp [dif, sam]
  | x :: a, y :: b => by
    have := dif_sam a b
    simp only [dif, sam, List.length_cons]
    by_cases c : x = y <;> simp [c] <;> omega
theorem dif_nil_left (b : List Int) : dif [] b = b.length := by simp [dif]
theorem dif_nil_right (a : List Int) : dif a [] = a.length := by cases a <;> simp [dif]
theorem dif_le (a b : List Int) : dif a b ≤ max a.length b.length := by have := dif_sam a b; omega
theorem spec_dif_loop (a b : List Int) (ha : a.length ≤ 1048576) (hb : b.length ≤ 1048576) : ∀ (d i k : Nat) (c : Nat), i + d = max a.length b.length → 2 * d + 2 < k → c + d ≤ 10000000 → spec_DifferingEntries.l0 k (c : Int) (i : Int) a b = some ((c + dif (a.drop i) (b.drop i) : Nat) : Int) := by
  intro d
  induction d with
  | zero =>
    intro i k c hi hk hc
    obtain ⟨k, rfl⟩ : ∃ m, k = m + 1 + 1 := ⟨k - 2, by omega⟩
    simp only [spec_DifferingEntries.l0, spec_DifferingEntries.j1]
    rw [if_neg (by omega), if_neg (by simp; omega), List.drop_eq_nil_of_le (by omega), List.drop_eq_nil_of_le (by omega)]
    simp [dif]
  | succ d ih =>
    intro i k c hi hk hc
    obtain ⟨k, rfl⟩ : ∃ m, k = m + 1 + 1 := ⟨k - 2, by omega⟩
    simp only [spec_DifferingEntries.l0, spec_DifferingEntries.j1]
    have big := dif_le (a.drop (i + 1)) (b.drop (i + 1))
    simp only [List.length_drop] at big
    by_cases qa : (i : Int) < (a.length : Int)
    · rw [if_pos qa]
      simp only [if_true]
      rw [if_neg (by omega)]
      by_cases qb : (i : Int) < (b.length : Int)
      · rw [if_neg (by omega), if_pos (by omega), if_pos (by omega), if_pos (by omega), drop_rd a i (by omega), drop_rd b i (by omega)]
        simp only [dif]
        by_cases q : rd a (i : Int) = rd b (i : Int)
        · rw [if_pos q, if_pos q, w64s (by omega), ih (i + 1) k c (by omega) (by omega) (by omega)]
          simp
        · rw [if_neg q, if_neg q, w64s (by omega), w64s (by omega), ih (i + 1) k (c + 1) (by omega) (by omega) (by omega)]
          congr 2
          omega
      · rw [if_pos (by omega), w64s (by omega), w64s (by omega), ih (i + 1) k (c + 1) (by omega) (by omega) (by omega), List.drop_eq_nil_of_le (show b.length ≤ i by omega), List.drop_eq_nil_of_le (show b.length ≤ i + 1 by omega), dif_nil_right, dif_nil_right]
        simp only [List.length_drop]
        congr 2
        omega
    · rw [if_neg qa]
      have qb : (i : Int) < (b.length : Int) := by omega
      rw [if_pos (by simp; omega), if_pos (by omega), w64s (by omega), w64s (by omega), ih (i + 1) k (c + 1) (by omega) (by omega) (by omega), List.drop_eq_nil_of_le (show a.length ≤ i by omega), List.drop_eq_nil_of_le (show a.length ≤ i + 1 by omega), dif_nil_left, dif_nil_left]
      simp only [List.length_drop]
      congr 2
      omega
theorem spec_DifferingEntries_eq (a b : List Int) (k : Nat) (ha : a.length ≤ 1048576) (hb : b.length ≤ 1048576) (hk : 2200000 < k) (hs : a.length + b.length ≤ 1048576) : spec_DifferingEntries.f k a b = some (dif a b : Int) := by
  unfold spec_DifferingEntries.f
  have h := spec_dif_loop a b ha hb (max a.length b.length) 0 k 0 (by omega) (by omega) (by omega)
  simpa using h
theorem impl_dif_loop (a b : List Int) (ha : a.length ≤ 1048576) (hb : b.length ≤ 1048576) : ∀ (d i k : Nat) (c : Int), i + d = min a.length b.length → d < k → (d : Int) - 10000000 ≤ c ∧ c ≤ 10000000 → impl_DifferingEntries.l0 k c ((min a.length b.length : Nat) : Int) (i : Int) a b = some (c - (sam (a.drop i) (b.drop i) : Int)) := by
  intro d
  induction d with
  | zero =>
    intro i k c hi hk hc
    obtain ⟨k, rfl⟩ : ∃ m, k = m + 1 := ⟨k - 1, by omega⟩
    simp only [impl_DifferingEntries.l0]
    rw [if_neg (by omega)]
    have : sam (a.drop i) (b.drop i) = 0 := by
      by_cases q : a.length ≤ i
      · rw [List.drop_eq_nil_of_le q]; simp [sam]
      · rw [List.drop_eq_nil_of_le (show b.length ≤ i by omega)]; cases a.drop i <;> simp [sam]
    rw [this]
    simp
  | succ d ih =>
    intro i k c hi hk hc
    obtain ⟨k, rfl⟩ : ∃ m, k = m + 1 := ⟨k - 1, by omega⟩
    simp only [impl_DifferingEntries.l0]
    rw [if_pos (by omega), if_pos (by omega), if_pos (by omega), if_pos (by omega), drop_rd a i (by omega), drop_rd b i (by omega)]
    simp only [sam]
    by_cases q : rd a (i : Int) = rd b (i : Int)
    · rw [if_pos q, if_pos q, w64s (by omega)]
      rw [wrap64_id (by omega) (by omega), ih (i + 1) k (c - 1) (by omega) (by omega) (by omega)]
      congr 1
      omega
    · rw [if_neg q, if_neg q, w64s (by omega), ih (i + 1) k c (by omega) (by omega) (by omega)]
      congr 1
      omega
theorem impl_DifferingEntries_eq (a b : List Int) (k : Nat) (hk : 2200000 < k) (hs : a.length + b.length ≤ 1048576) : impl_DifferingEntries.f k a b = some (dif a b : Int) := by
  unfold impl_DifferingEntries.f
  have e1 : mx (a.length : Int) (b.length : Int) = ((max a.length b.length : Nat) : Int) := by unfold mx; split <;> omega
  have e2 : mn (a.length : Int) (b.length : Int) = ((min a.length b.length : Nat) : Int) := by unfold mn; split <;> omega
  rw [e1, e2]
  have h := impl_dif_loop a b (by omega) (by omega) (min a.length b.length) 0 k ((max a.length b.length : Nat) : Int) (by omega) (by omega) (by omega)
  rw [show ((0 : Nat) : Int) = 0 from rfl] at h
  rw [h]
  congr 1
  have := dif_sam a b
  simp only [List.drop_zero]
  omega

theorem FnExactDifferingEntries : laws_FnExactDifferingEntries.Pure := by
  intro a b ha _ hb _
  obtain ⟨k, hk⟩ : ∃ k : Nat, 3000000 ≤ k := ⟨_, Nat.le_refl _⟩
  refine ⟨k, ?_⟩
  unfold laws_FnExactDifferingEntries.f
  rw [szTable_eq a 1048576 (by omega) ha]
  simp only [Option.bind_some]
  by_cases ca : (a.length : Int) ≤ 1048576
  · rw [if_pos ca, if_neg (by omega), szTable_eq b _ (by omega) hb]
    simp only [Option.bind_some]
    by_cases cb : (b.length : Int) ≤ 1048576 - a.length
    · rw [if_pos cb, if_neg (by omega)]
      simp only [toTable_eq a k (by omega) (by omega), toTable_eq b k (by omega) (by omega), spec_DifferingEntries_eq a b k (by omega) (by omega) (by omega) (by omega), impl_DifferingEntries_eq a b k (by omega) (by omega), eqTable_self a k (by omega) (by omega), eqTable_self b k (by omega) (by omega), Option.bind_some, if_true]
    · rw [if_neg cb, if_pos (by omega)]
  · rw [if_neg ca, if_pos (by omega)]

end Go.Proofs.Ytohccnaellachaa.Pure
