/- What is proved: the statement FnExactTurnsOfRule, in its pure form, over numbers and lists: the program's and the reference's TurnsOfRule agree at every number, and the result is the caller's own (no conditions). -/
import Derived.Test.YtohccnaellachaaX17
import Derived.Test.YtohccnaellachaaModel
set_option linter.unusedVariables false
set_option linter.unusedSimpArgs false
namespace Go.Proofs.Ytohccnaellachaa.Pure
open Go.RowKit Go.Proofs.Ytohccnaellachaa.X Go.Proofs.Ytohccnaellachaa.M Go.Proofs.YtohccnaellachaaW.PrintWords Go.Proofs.YtohccnaellachaaW.PrintLast
theorem rd_nat (l : List Int) (i : Nat) (h : i < l.length) : rd l (i : Int) = l[i] := by unfold rd; simp [h]
theorem drop_rd (l : List Int) (i : Nat) (h : i < l.length) : l.drop i = rd l (i : Int) :: l.drop (i + 1) := by
  rw [rd_nat l i h]; exact List.drop_eq_getElem_cons h
theorem w64s {i : Nat} (h : i ≤ 9223372036854775806) : wrap64 ((i : Int) + 1) = ((i + 1 : Nat) : Int) := by rw [wrap64_id (by omega) (by omega)]; omega
theorem w64p {i : Nat} (h : i ≤ 9223372036854775806) (h0 : 0 < i) : wrap64 ((i : Int) - 1) = ((i - 1 : Nat) : Int) := by rw [wrap64_id (by omega) (by omega)]; omega

theorem eqIntS_loop (a b : List Int) (hl : a.length = b.length) (hn : a.length ≤ 9223372036854775806) : ∀ (d i k : Nat), i + d = a.length → d < k → laws_eqIntS.l0 k a b (i : Int) = some (decide (a.drop i = b.drop i)) := by
  intro d
  induction d with
  | zero =>
    intro i k hi hk
    obtain ⟨k, rfl⟩ : ∃ m, k = m + 1 := ⟨k - 1, by omega⟩
    simp only [laws_eqIntS.l0]
    rw [if_neg (by omega), List.drop_eq_nil_of_le (by omega), List.drop_eq_nil_of_le (by omega)]
    simp
  | succ d ih =>
    intro i k hi hk
    obtain ⟨k, rfl⟩ : ∃ m, k = m + 1 := ⟨k - 1, by omega⟩
    simp only [laws_eqIntS.l0]
    rw [if_pos (by omega), if_pos (by omega), if_pos (by omega), drop_rd a i (by omega), drop_rd b i (by omega)]
    by_cases c : rd a (i : Int) = rd b (i : Int)
    · rw [if_pos c, w64s (by omega), ih (i + 1) k (by omega) (by omega)]
      simp [c]
    · rw [if_neg c]; simp [c]
theorem eqIntS_eq (a b : List Int) (k : Nat) (ha : a.length ≤ 1048576) (hk : 1048577 < k) : laws_eqIntS.f k a b = some (decide (a = b)) := by
  unfold laws_eqIntS.f
  by_cases c : (a.length : Int) = (b.length : Int)
  · rw [if_pos c]
    have h := eqIntS_loop a b (by omega) (by omega) a.length 0 k (by omega) (by omega)
    simpa using h
  · rw [if_neg c]
    have : a ≠ b := fun e => c (by rw [e])
    simp [this]
theorem eqIntS_self (a : List Int) (k : Nat) (ha : a.length ≤ 1048576) (hk : 1048577 < k) : laws_eqIntS.f k a a = some true := by rw [eqIntS_eq a a k ha hk]; simp

theorem markIntS_loop (n m0 : Nat) (hn : n + m0 ≤ 4000000000) : ∀ (d i k : Nat) (x : List Int), i + d = n → d < k → x.length = n → (∀ j, j < i → x[j]? = some ((m0 + j : Nat) : Int)) → laws_markIntS.l0 k x ((m0 + i : Nat) : Int) (i : Int) = some (((m0 + n : Nat) : Int), (List.range n).map fun j => ((m0 + j : Nat) : Int)) := by
  intro d
  induction d with
  | zero =>
    intro i k x hi hk hl hx
    obtain ⟨k, rfl⟩ : ∃ m, k = m + 1 := ⟨k - 1, by omega⟩
    simp only [laws_markIntS.l0]
    rw [if_neg (by omega)]
    have e : x = (List.range n).map fun j => ((m0 + j : Nat) : Int) := by
      apply List.ext_getElem?
      intro j
      by_cases hj : j < n
      · rw [hx j (by omega)]; simp [hj]
      · rw [List.getElem?_eq_none (by omega), List.getElem?_eq_none (by simp; omega)]
    obtain rfl : i = n := by omega
    rw [← e]
  | succ d ih =>
    intro i k x hi hk hl hx
    obtain ⟨k, rfl⟩ : ∃ m, k = m + 1 := ⟨k - 1, by omega⟩
    simp only [laws_markIntS.l0]
    rw [if_pos (by omega), if_pos (by omega), w64s (by omega), w64s (by omega)]
    have e2 : m0 + i + 1 = m0 + (i + 1) := by omega
    rw [e2]
    refine ih (i + 1) k _ (by omega) (by omega) (by simpa using hl) fun j hj => ?_
    have e : ((i : Int)).toNat = i := by simp
    rw [e, List.getElem?_set]
    by_cases c : i = j
    · subst c; rw [if_pos rfl, if_pos (by omega)]
    · rw [if_neg c]; exact hx j (by omega)
theorem markIntS_eq (l : List Int) (m0 k : Nat) (hl : l.length + m0 ≤ 4000000000) (hk : l.length < k) : laws_markIntS.f k l (m0 : Int) = some (((m0 + l.length : Nat) : Int), (List.range l.length).map fun j => ((m0 + j : Nat) : Int)) := by
  unfold laws_markIntS.f
  have h := markIntS_loop l.length m0 (by omega) l.length 0 k l (by omega) (by omega) rfl (by simp)
  simpa using h

theorem heldIntS_loop (n m0 : Nat) (hn : n + m0 ≤ 4000000000) : ∀ (d i k : Nat), i + d = n → d < k → laws_heldIntS.l0 k ((List.range n).map fun j => ((m0 + j : Nat) : Int)) ((m0 + i : Nat) : Int) (i : Int) = some ((m0 + n : Nat) : Int) := by
  intro d
  induction d with
  | zero =>
    intro i k hi hk
    obtain ⟨k, rfl⟩ : ∃ m, k = m + 1 := ⟨k - 1, by omega⟩
    simp only [laws_heldIntS.l0]
    rw [if_neg (by simp; omega)]
    obtain rfl : i = n := by omega
    rfl
  | succ d ih =>
    intro i k hi hk
    obtain ⟨k, rfl⟩ : ∃ m, k = m + 1 := ⟨k - 1, by omega⟩
    simp only [laws_heldIntS.l0]
    rw [if_pos (by simp; omega), if_pos (by omega), if_pos (by rw [rd_nat _ _ (by simp; omega)]; simp), w64s (by omega), w64s (by omega)]
    have e2 : m0 + i + 1 = m0 + (i + 1) := by omega
    rw [e2]
    exact ih (i + 1) k (by omega) (by omega)
theorem heldIntS_eq (n m0 k : Nat) (hl : n + m0 ≤ 4000000000) (hk : n < k) : laws_heldIntS.f k ((List.range n).map fun j => ((m0 + j : Nat) : Int)) (m0 : Int) = some ((m0 + n : Nat) : Int) := by
  unfold laws_heldIntS.f
  have h := heldIntS_loop n m0 (by omega) n 0 k (by omega) (by omega)
  simpa using h

theorem mark_held (l : List Int) (k : Nat) (hl : l.length ≤ 1048576) (hk : 1048577 < k) : ∃ r, laws_markIntS.f k l 1 = some (1 + (l.length : Int), r) ∧ laws_heldIntS.f k r 1 = some (1 + (l.length : Int)) := by
  refine ⟨_, ?_, heldIntS_eq l.length 1 k (by omega) (by omega) |>.trans ?_⟩
  · have h := markIntS_eq l 1 k (by omega) (by omega)
    rw [show ((1 : Nat) : Int) = 1 from rfl] at h
    rw [h]
    simp
  · simp
theorem mark_any (l : List Int) (m k : Nat) (hl : l.length ≤ 1048576) (hm : m ≤ 100000000) (hk : 1048577 < k) : ∃ r, laws_markIntS.f k l (m : Int) = some (((m + l.length : Nat) : Int), r) := ⟨_, markIntS_eq l m k (by omega) (by omega)⟩

theorem mayTurn_no (r p q : Int) (h : ¬ (1 ≤ r ∧ r ≤ 4)) : impl_mayTurn.f r p q = some false := by
  unfold impl_mayTurn.f
  rw [if_neg (by omega), if_neg (by omega), if_neg (by omega), if_neg (by omega)]
theorem impl_TurnsOfRule_no (r : Int) (h : ¬ (1 ≤ r ∧ r ≤ 4)) : impl_TurnsOfRule.f 100 r = impl_TurnsOfRule.f 100 0 := by
  unfold impl_TurnsOfRule.f
  have key : ∀ (k : Nat) (x : List Int) (i : Int), impl_TurnsOfRule.l0 k r x i = impl_TurnsOfRule.l0 k 0 x i := by
    intro k
    induction k with
    | zero => intro x i; rfl
    | succ k ih =>
      intro x i
      simp only [impl_TurnsOfRule.l0, mayTurn_no r _ _ h, mayTurn_no 0 _ _ (by omega), Option.bind_some, ih]
  exact key _ _ _
theorem spec_TurnsOfRule_no (r : Int) (h : ¬ (1 ≤ r ∧ r ≤ 4)) : spec_TurnsOfRule.f 100 r = spec_TurnsOfRule.f 100 0 := by
  unfold spec_TurnsOfRule.f
  have key : ∀ (k : Nat), (∀ (x : List Bool) (i : Int), spec_TurnsOfRule.l0 k r x i = spec_TurnsOfRule.l0 k 0 x i) ∧ (∀ (x : List Bool) (i j : Int), spec_TurnsOfRule.l1 k r x i j = spec_TurnsOfRule.l1 k 0 x i j) := by
    intro k
    induction k with
    | zero => exact ⟨fun _ _ => rfl, fun _ _ _ => rfl⟩
    | succ k ih =>
      have h1 : ¬ r = 1 := by omega
      have h2 : ¬ r = 2 := by omega
      have h3 : ¬ r = 3 := by omega
      have h4 : ¬ r = 4 := by omega
      refine ⟨fun x i => ?_, fun x i j => ?_⟩
      · simp only [spec_TurnsOfRule.l0, ih.2]
      · simp only [spec_TurnsOfRule.l1]
        simp [h1, h2, h3, h4, ih.1, ih.2]
  rw [(key 100).1]
theorem FnExactTurnsOfRule : laws_FnExactTurnsOfRule.Pure := by
  intro r _
  refine ⟨100, ?_⟩
  by_cases h : 1 ≤ r ∧ r ≤ 4
  · have hr : r = 1 ∨ r = 2 ∨ r = 3 ∨ r = 4 := by omega
    rcases hr with rfl | rfl | rfl | rfl <;> decide +kernel
  · unfold laws_FnExactTurnsOfRule.f
    rw [impl_TurnsOfRule_no r h, spec_TurnsOfRule_no r h]
    decide +kernel

end Go.Proofs.Ytohccnaellachaa.Pure
