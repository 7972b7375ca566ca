/- What is proved: the statement FnExactIsOrder, in its pure form, over numbers and lists: the program's and the reference's IsOrder agree for all arguments, and the arguments stay (no conditions). -/
import Derived.Test.YtmfkgnfjjfnfmaaXO5
import Derived.Test.YtmfkgnfjjfnfmaaModel
set_option linter.unusedVariables false
set_option linter.unusedSimpArgs false
namespace Go.Proofs.Ytmfkgnfjjfnfmaa.Pure
open Go.RowKit Go.Proofs.Ytmfkgnfjjfnfmaa.XO Go.Proofs.Ytmfkgnfjjfnfmaa.M Go.Proofs.YtmfkgnfjjfnfmaaW.PrintWords Go.Proofs.YtmfkgnfjjfnfmaaW.PrintLast
theorem rd_nat (l : List Int) (i : Nat) (h : i < l.length) : rd l (i : Int) = l[i] := by unfold rd; simp [h]
theorem drop_rd (l : List Int) (i : Nat) (h : i < l.length) : l.drop i = rd l (i : Int) :: l.drop (i + 1) := by
  rw [rd_nat l i h]; exact List.drop_eq_getElem_cons h
theorem w64s {i : Nat} (h : i ≤ 9223372036854775806) : wrap64 ((i : Int) + 1) = ((i + 1 : Nat) : Int) := by rw [wrap64_id (by omega) (by omega)]; omega
theorem w64p {i : Nat} (h : i ≤ 9223372036854775806) (h0 : 0 < i) : wrap64 ((i : Int) - 1) = ((i - 1 : Nat) : Int) := by rw [wrap64_id (by omega) (by omega)]; omega

theorem impl_inside_eq (a b c : Int) : impl_inside.f a b c = some (inR a b c) := by
  unfold impl_inside.f inR
  by_cases h : b ≤ a <;> simp [h]

theorem spec_l01In_eq (a b c : Int) : spec_l01In.f a b c = some (inR a b c) := by
  unfold spec_l01In.f inR
  by_cases h : b ≤ a <;> simp [h]

theorem toIntS_loop (x0 : List Int) (hn : x0.length ≤ 9223372036854775806) : ∀ (d i k : Nat) (x3 : List Int), i + d = x0.length → d < k → x3.length = x0.length → (∀ j, j < i → x3[j]? = x0[j]?) → laws_toIntS.l0 k x0 x3 (i : Int) = some x0 := by
  intro d
  induction d with
  | zero =>
    intro i k x3 hi hk hl hx
    obtain ⟨k, rfl⟩ : ∃ m, k = m + 1 := ⟨k - 1, by omega⟩
    simp only [laws_toIntS.l0]
    rw [if_neg (by omega)]
    congr 1
    apply List.ext_getElem?
    intro j
    by_cases hj : j < x0.length
    · exact hx j (by omega)
    · rw [List.getElem?_eq_none (by omega), List.getElem?_eq_none (by omega)]
  | succ d ih =>
    intro i k x3 hi hk hl hx
    obtain ⟨k, rfl⟩ : ∃ m, k = m + 1 := ⟨k - 1, by omega⟩
    simp only [laws_toIntS.l0]
    rw [if_pos (by omega), if_pos (by omega), if_pos (by omega), w64s (by omega)]
    refine ih (i + 1) k _ (by omega) (by omega) (by simpa using hl) fun j hj => ?_
    have e : ((i : Int)).toNat = i := by simp
    rw [e, List.getElem?_set]
    by_cases c : i = j
    · subst c; rw [if_pos rfl, if_pos (by omega), rd_nat _ _ (by omega), List.getElem?_eq_getElem (by omega)]
    · rw [if_neg c]; exact hx j (by omega)
theorem toIntS_eq (l : List Int) (k : Nat) (hl : l.length ≤ 1048576) (hk : 1048577 < k) : laws_toIntS.f k l = some l := by
  unfold laws_toIntS.f
  rw [if_pos (by omega), if_pos (by simp; omega)]
  exact toIntS_loop l (by omega) l.length 0 k _ (by omega) (by omega) (by simp) (by simp)

theorem eqIntS_loop (a b : List Int) (hl : a.length = b.length) (hn : a.length ≤ 9223372036854775806) : ∀ (d i k : Nat), i + d = a.length → d < k → laws_eqIntS.l0 k a b (i : Int) = some (decide (a.drop i = b.drop i)) := by
  intro d
  induction d with
  | zero =>
    intro i k hi hk
    obtain ⟨k, rfl⟩ : ∃ m, k = m + 1 := ⟨k - 1, by omega⟩
    simp only [laws_eqIntS.l0]
    rw [if_neg (by omega), List.drop_eq_nil_of_le (by omega), List.drop_eq_nil_of_le (by omega)]
    simp
  | succ d ih =>
    intro i k hi hk
    obtain ⟨k, rfl⟩ : ∃ m, k = m + 1 := ⟨k - 1, by omega⟩
    simp only [laws_eqIntS.l0]
    rw [if_pos (by omega), if_pos (by omega), if_pos (by omega), drop_rd a i (by omega), drop_rd b i (by omega)]
    by_cases c : rd a (i : Int) = rd b (i : Int)
    · rw [if_pos c, w64s (by omega), ih (i + 1) k (by omega) (by omega)]
      simp [c]
    · rw [if_neg c]; simp [c]
theorem eqIntS_eq (a b : List Int) (k : Nat) (ha : a.length ≤ 1048576) (hk : 1048577 < k) : laws_eqIntS.f k a b = some (decide (a = b)) := by
  unfold laws_eqIntS.f
  by_cases c : (a.length : Int) = (b.length : Int)
  · rw [if_pos c]
    have h := eqIntS_loop a b (by omega) (by omega) a.length 0 k (by omega) (by omega)
    simpa using h
  · rw [if_neg c]
    have : a ≠ b := fun e => c (by rw [e])
    simp [this]
theorem eqIntS_self (a : List Int) (k : Nat) (ha : a.length ≤ 1048576) (hk : 1048577 < k) : laws_eqIntS.f k a a = some true := by rw [eqIntS_eq a a k ha hk]; simp

theorem l03Find_loop (l : List Int) (c : Int) (hn : l.length ≤ 9223372036854775806) : ∀ (d i k : Nat), i + d = l.length → d < k → spec_l03Find.l0 k l c (i : Int) = some (decide (c ∈ l.drop i)) := by
  intro d
  induction d with
  | zero =>
    intro i k hi hk
    obtain ⟨k, rfl⟩ : ∃ m, k = m + 1 := ⟨k - 1, by omega⟩
    simp only [spec_l03Find.l0]
    rw [if_neg (by omega), List.drop_eq_nil_of_le (by omega)]
    simp
  | succ d ih =>
    intro i k hi hk
    obtain ⟨k, rfl⟩ : ∃ m, k = m + 1 := ⟨k - 1, by omega⟩
    simp only [spec_l03Find.l0]
    rw [if_pos (by omega), if_pos (by omega), drop_rd l i (by omega)]
    by_cases q : rd l (i : Int) = c
    · rw [if_pos q]; simp [q]
    · rw [if_neg q, w64s (by omega), ih (i + 1) k (by omega) (by omega)]
      have : ¬ c = rd l (i : Int) := fun e => q e.symm
      simp [this]
theorem l03Find_eq (l : List Int) (c : Int) (k : Nat) (hl : l.length ≤ 1048576) (hk : 1048577 < k) : spec_l03Find.f k l c = some (decide (c ∈ l)) := by
  unfold spec_l03Find.f
  have e := l03Find_loop l c (by omega) l.length 0 k (by omega) (by omega)
  simpa using e

theorem slicesIndex_loop (l : List Int) (c : Int) (hn : l.length ≤ 9223372036854775806) : ∀ (d i k : Nat), i + d = l.length → d < k → ∃ r, slices_Index_int_int.l0 k l c (l.length : Int) (i : Int) = some r ∧ (0 ≤ r ↔ c ∈ l.drop i) := by
  intro d
  induction d with
  | zero =>
    intro i k hi hk
    obtain ⟨k, rfl⟩ : ∃ m, k = m + 1 := ⟨k - 1, by omega⟩
    simp only [slices_Index_int_int.l0]
    rw [if_neg (by omega), List.drop_eq_nil_of_le (by omega)]
    exact ⟨-1, rfl, by simp⟩
  | succ d ih =>
    intro i k hi hk
    obtain ⟨k, rfl⟩ : ∃ m, k = m + 1 := ⟨k - 1, by omega⟩
    simp only [slices_Index_int_int.l0]
    rw [if_pos (by omega), if_pos (by omega), if_pos (by omega), drop_rd l i (by omega)]
    by_cases q : c = rd l (i : Int)
    · rw [if_pos q]; exact ⟨_, rfl, by simp [q]⟩
    · rw [if_neg q, w64s (by omega)]
      obtain ⟨r, h1, h2⟩ := ih (i + 1) k (by omega) (by omega)
      exact ⟨r, h1, by simp [q, h2]⟩
theorem slicesContains_eq (l : List Int) (c : Int) (k : Nat) (hl : l.length ≤ 1048576) (hk : 1048577 < k) : slices_Contains_int_int.f k l c = some (decide (c ∈ l)) := by
  unfold slices_Contains_int_int.f slices_Index_int_int.f
  obtain ⟨r, h1, h2⟩ := slicesIndex_loop l c (by omega) l.length 0 k (by omega) (by omega)
  rw [show ((0 : Nat) : Int) = 0 from rfl] at h1
  rw [h1]
  simp only [Option.bind_some]
  congr 1
  simpa using h2

theorem szDependS_eq (l : List S104) (a : Int) (h : 0 ≤ a ∧ a ≤ 1048576) (hl : l.length ≤ maxLen) : laws_szDependS.f l a = some (if (l.length : Int) ≤ a then a - l.length else -1) := by
  unfold maxLen at hl
  unfold laws_szDependS.f
  rw [wrap64_id (by omega) (by omega)]
  by_cases c : (l.length : Int) ≤ a
  · rw [if_neg (by omega), if_pos c]
  · rw [if_pos (by omega), if_neg c]
/-- a law's list as the program's -/
def cv (l : List S104) : List S83 := l.map fun y => ⟨y.f0, y.f1⟩
theorem cv_len (l : List S104) : (cv l).length = l.length := by simp [cv]
theorem toDependS_loop (x0 : List S104) (hn : x0.length ≤ 9223372036854775806) : ∀ (d i k : Nat) (x3 : List S83), i + d = x0.length → d < k → x3.length = x0.length → (∀ j, j < i → x3[j]? = (cv x0)[j]?) → laws_toDependS.l0 k x0 x3 (i : Int) = some (cv x0) := by
  intro d
  induction d with
  | zero =>
    intro i k x3 hi hk hl hx
    obtain ⟨k, rfl⟩ : ∃ m, k = m + 1 := ⟨k - 1, by omega⟩
    simp only [laws_toDependS.l0]
    rw [if_neg (by omega)]
    congr 1
    apply List.ext_getElem?
    intro j
    by_cases hj : j < x0.length
    · exact hx j (by omega)
    · rw [List.getElem?_eq_none (by omega), List.getElem?_eq_none (by rw [cv_len]; omega)]
  | succ d ih =>
    intro i k x3 hi hk hl hx
    obtain ⟨k, rfl⟩ : ∃ m, k = m + 1 := ⟨k - 1, by omega⟩
    simp only [laws_toDependS.l0, laws_toDepend.f, Option.bind_some]
    rw [if_pos (by omega), if_pos (by omega), if_pos (by omega), w64s (by omega)]
    refine ih (i + 1) k _ (by omega) (by omega) (by simpa using hl) fun j hj => ?_
    have e : ((i : Int)).toNat = i := by simp
    rw [e, List.getElem?_set]
    by_cases c : i = j
    · subst c
      rw [if_pos rfl, if_pos (by omega)]
      unfold rd_T104 cv
      simp [show i < x0.length by omega]
    · rw [if_neg c]; exact hx j (by omega)
theorem toDependS_eq (l : List S104) (k : Nat) (hl : l.length ≤ 1048576) (hk : 1048577 < k) : laws_toDependS.f k l = some (cv l) := by
  unfold laws_toDependS.f
  rw [if_pos (by omega), if_pos (by simp; omega)]
  exact toDependS_loop l (by omega) l.length 0 k _ (by omega) (by omega) (by simp) (by simp)

theorem rdp_nat (l : List S83) (i : Nat) (h : i < l.length) : rd_T83 l (i : Int) = l[i] := by unfold rd_T83; simp [h]
theorem drop_rdp (l : List S83) (i : Nat) (h : i < l.length) : l.drop i = rd_T83 l (i : Int) :: l.drop (i + 1) := by
  rw [rdp_nat l i h]; exact List.drop_eq_getElem_cons h
/-- equal lists of pairs -/
def samep : List S83 → List S83 → Bool
  | [], [] => true
  | x :: a, y :: b => decide (x.f0 = y.f0) && (decide (x.f1 = y.f1) && samep a b)
  | _, _ => false
theorem samep_iff : ∀ a b : List S83, samep a b = true ↔ a = b
  | [], [] => by simp [samep]
  | [], y :: b => by simp [samep]
  | x :: a, [] => by simp [samep]
  | x :: a, y :: b => by
    have := samep_iff a b
    cases x; cases y
    simp [samep, this, and_assoc]
theorem eqDependS_loop (a b : List S83) (hl : a.length = b.length) (hn : a.length ≤ 9223372036854775806) : ∀ (d i k : Nat), i + d = a.length → d < k → laws_eqDependS.l0 k a b (i : Int) = some (samep (a.drop i) (b.drop i)) := by
  intro d
  induction d with
  | zero =>
    intro i k hi hk
    obtain ⟨k, rfl⟩ : ∃ m, k = m + 1 := ⟨k - 1, by omega⟩
    simp only [laws_eqDependS.l0]
    rw [if_neg (by omega), List.drop_eq_nil_of_le (by omega), List.drop_eq_nil_of_le (by omega)]
    simp [samep]
  | succ d ih =>
    intro i k hi hk
    obtain ⟨k, rfl⟩ : ∃ m, k = m + 1 := ⟨k - 1, by omega⟩
    simp only [laws_eqDependS.l0, laws_eqDepend.f]
    rw [if_pos (by omega), if_pos (by omega), if_pos (by omega), drop_rdp a i (by omega), drop_rdp b i (by omega)]
    simp only [samep]
    by_cases c : (rd_T83 a (i : Int)).f0 = (rd_T83 b (i : Int)).f0
    · rw [if_pos c]
      by_cases c2 : (rd_T83 a (i : Int)).f1 = (rd_T83 b (i : Int)).f1
      · rw [if_pos c2]
        simp only [Option.bind_some, if_true]
        rw [w64s (by omega), ih (i + 1) k (by omega) (by omega)]
        simp [c, c2]
      · rw [if_neg c2]; simp [c, c2]
    · rw [if_neg c]; simp [c]
theorem eqDependS_eq (a b : List S83) (k : Nat) (ha : a.length ≤ 1048576) (hk : 1048577 < k) : laws_eqDependS.f k a b = some (samep a b) := by
  unfold laws_eqDependS.f
  by_cases c : (a.length : Int) = (b.length : Int)
  · rw [if_pos c]
    have h := eqDependS_loop a b (by omega) (by omega) a.length 0 k (by omega) (by omega)
    rw [show ((0 : Nat) : Int) = 0 from rfl] at h
    rw [h]
    simp only [List.drop_zero]
  · rw [if_neg c]
    have : ¬ samep a b = true := fun e => c (by rw [(samep_iff a b).1 e])
    simp [this]
theorem eqDependS_self (a : List S83) (k : Nat) (ha : a.length ≤ 1048576) (hk : 1048577 < k) : laws_eqDependS.f k a a = some true := by rw [eqDependS_eq a a k ha hk, (samep_iff a a).2 rfl]

def ltp (p q : S83) : Bool := decide (p.f0 < q.f0) || (decide (p.f0 = q.f0) && decide (p.f1 < q.f1))
def inp (p : S83) : Bool := inR p.f0 0 127 && inR p.f1 0 127
def depFrom : Option S83 → List S83 → Bool
  | _, [] => true
  | none, c :: r => inp c && depFrom (some c) r
  | some q, c :: r => inp c && (ltp q c && depFrom (some c) r)
def depOk (l : List S83) : Bool := depFrom none l
theorem spec_DependsOk_loop (l : List S83) (hn : l.length ≤ 9223372036854775806) : ∀ (d i k : Nat), i + d = l.length → d < k → spec_DependsOk.l0 k l (i : Int) = some (depFrom (if i = 0 then none else some (rd_T83 l ((i - 1 : Nat) : Int))) (l.drop i)) := by
  intro d
  induction d with
  | zero =>
    intro i k hi hk
    obtain ⟨k, rfl⟩ : ∃ m, k = m + 1 := ⟨k - 1, by omega⟩
    simp only [spec_DependsOk.l0]
    rw [if_neg (by omega), List.drop_eq_nil_of_le (by omega)]
    simp [depFrom]
  | succ d ih =>
    intro i k hi hk
    obtain ⟨k, rfl⟩ : ∃ m, k = m + 1 := ⟨k - 1, by omega⟩
    simp only [spec_DependsOk.l0, spec_l01In_eq, Option.bind_some]
    rw [if_pos (by omega), if_pos (by omega), drop_rdp l i (by omega)]
    have e := ih (i + 1) k (by omega) (by omega)
    rw [if_neg (by omega), show i + 1 - 1 = i from by omega] at e
    by_cases c : inR (rd_T83 l (i : Int)).f0 0 127 = true
    · rw [if_pos c]
      by_cases c2 : inR (rd_T83 l (i : Int)).f1 0 127 = true
      · rw [if_pos c2]
        by_cases z : i = 0
        · subst z
          rw [if_neg (by simp), w64s (by omega), e, if_pos rfl]
          simp only [depFrom, inp, c, c2, Bool.true_and, Bool.and_self]
        · rw [if_pos (by omega), w64p (by omega) (by omega), if_pos (by omega), if_pos (by omega), if_neg z]
          simp only [depFrom, inp, c, c2, Bool.true_and]
          have el : spec_l08Less.f (rd_T83 l ((i - 1 : Nat) : Int)).f0 (rd_T83 l ((i - 1 : Nat) : Int)).f1 (rd_T83 l (i : Int)).f0 (rd_T83 l (i : Int)).f1 = some (ltp (rd_T83 l ((i - 1 : Nat) : Int)) (rd_T83 l (i : Int))) := by
            unfold spec_l08Less.f ltp
            by_cases q : (rd_T83 l ((i - 1 : Nat) : Int)).f0 < (rd_T83 l (i : Int)).f0
            · rw [if_pos q]; simp [q]
            · rw [if_neg q]
              by_cases q2 : (rd_T83 l ((i - 1 : Nat) : Int)).f0 = (rd_T83 l (i : Int)).f0
              · rw [if_pos q2]; simp [q2]
              · rw [if_neg q2]; simp [q, q2]
          rw [el]
          simp only [Option.bind_some]
          by_cases q : ltp (rd_T83 l ((i - 1 : Nat) : Int)) (rd_T83 l (i : Int)) = true
          · rw [if_pos q, w64s (by omega), e, q]; simp
          · rw [if_neg q]; simp [q]
      · rw [if_neg c2]
        by_cases z : i = 0 <;> simp [z, depFrom, inp, c2]
        · subst z; simp at c2; simp [c2]
    · rw [if_neg c]
      by_cases z : i = 0 <;> simp [z, depFrom, inp, c]
      · subst z; simp at c; simp [c]
theorem spec_DependsOk_eq (l : List S83) (k : Nat) (hl : l.length ≤ 1048576) (hk : 1048577 < k) : spec_DependsOk.f k l = some (depOk l) := by
  unfold spec_DependsOk.f depOk
  have e := spec_DependsOk_loop l (by omega) l.length 0 k (by omega) (by omega)
  simpa using e
theorem compare_eq (p q : S83) (hp : inp p = true) (hq : inp q = true) : ∃ r, impl_compareDepends.f p.f0 p.f1 q.f0 q.f1 = some r ∧ (0 ≤ r ↔ ltp p q = false) ∧ (r < 0 ↔ ltp p q = true) ∧ (r = 0 ↔ p = q) := by
  unfold inp at hp hq
  rw [Bool.and_eq_true, inR_iff, inR_iff] at hp hq
  cases p; cases q
  simp only at hp hq
  unfold impl_compareDepends.f ltp
  simp only
  split
  · rename_i c
    refine ⟨_, rfl, ?_⟩
    rw [wrap64_id (by omega) (by omega)]
    simp [c]
    omega
  · rename_i c
    refine ⟨_, rfl, ?_⟩
    rw [wrap64_id (by omega) (by omega)]
    simp [c]
    omega
theorem impl_DependsOk_loop (l : List S83) (hn : l.length ≤ 9223372036854775806) : ∀ (d i k : Nat), i + d = l.length → d < k → (0 < i → inp (rd_T83 l ((i - 1 : Nat) : Int)) = true) → impl_DependsOk.l0 k l l (l.length : Int) (i : Int) = some (depFrom (if i = 0 then none else some (rd_T83 l ((i - 1 : Nat) : Int))) (l.drop i)) := by
  intro d
  induction d with
  | zero =>
    intro i k hi hk hp
    obtain ⟨k, rfl⟩ : ∃ m, k = m + 1 := ⟨k - 1, by omega⟩
    simp only [impl_DependsOk.l0]
    rw [if_neg (by omega), List.drop_eq_nil_of_le (by omega)]
    simp [depFrom]
  | succ d ih =>
    intro i k hi hk hp
    obtain ⟨k, rfl⟩ : ∃ m, k = m + 1 := ⟨k - 1, by omega⟩
    simp only [impl_DependsOk.l0, impl_inside_eq, Option.bind_some]
    rw [if_pos (by omega), if_pos (by omega), if_pos (by omega), drop_rdp l i (by omega)]
    have e := ih (i + 1) k (by omega) (by omega)
    rw [if_neg (by omega), show i + 1 - 1 = i from by omega] at e
    by_cases c : inR (rd_T83 l (i : Int)).f0 0 127 = true
    · rw [if_pos c]
      by_cases c2 : inR (rd_T83 l (i : Int)).f1 0 127 = true
      · rw [if_pos c2]
        have hi' : inp (rd_T83 l (i : Int)) = true := by unfold inp; rw [c, c2]; rfl
        have e := e (fun _ => hi')
        by_cases z : i = 0
        · subst z
          rw [if_neg (by simp), w64s (by omega), e, if_pos rfl]
          simp only [depFrom, inp, c, c2, Bool.true_and, Bool.and_self]
        · rw [if_pos (by omega), w64p (by omega) (by omega), if_pos (by omega), if_pos (by omega), if_neg z]
          obtain ⟨r, er, r0, r1, _⟩ := compare_eq _ _ (hp (by omega)) hi'
          rw [er]
          simp only [Option.bind_some, depFrom, hi', Bool.true_and]
          by_cases q : r ≥ 0
          · rw [if_pos q, r0.1 q]; simp
          · rw [if_neg q, w64s (by omega), e, r1.1 (by omega)]; simp
      · rw [if_neg c2]
        by_cases z : i = 0 <;> simp [z, depFrom, inp, c2]
        · subst z; simp at c2; simp [c2]
    · rw [if_neg c]
      by_cases z : i = 0 <;> simp [z, depFrom, inp, c]
      · subst z; simp at c; simp [c]
theorem impl_DependsOk_eq (l : List S83) (k : Nat) (hl : l.length ≤ 1048576) (hk : 1048577 < k) : impl_DependsOk.f k l = some (depOk l) := by
  unfold impl_DependsOk.f depOk
  have e := impl_DependsOk_loop l (by omega) l.length 0 k (by omega) (by omega) (by simp)
  simpa using e

def stdG (w h r : Int) (i : Nat) : Int := stdP w r ((i / (cnt w h).toNat : Nat) : Int) ((i % (cnt w h).toNat : Nat) : Int)
def stdT (w h r : Int) : List Int := (List.range ((cnt w h).toNat * (cnt w h).toNat)).map (stdG w h r)
theorem stdT_len (w h r : Int) : (stdT w h r).length = (cnt w h).toNat * (cnt w h).toNat := by simp [stdT]
theorem cnt_sq (w h : Int) : (cnt w h).toNat * (cnt w h).toNat ≤ 256 ∧ (((cnt w h).toNat * (cnt w h).toNat : Nat) : Int) = cnt w h * cnt w h := by
  have b := cnt_bd w h
  obtain ⟨n, hn⟩ : ∃ n : Nat, cnt w h = n := ⟨(cnt w h).toNat, by omega⟩
  rw [hn] at b ⊢
  simp only [Int.toNat_natCast]
  refine ⟨?_, by simp⟩
  have : n ≤ 16 := by omega
  exact Nat.mul_le_mul this this

theorem eqIntS_big (a : List Int) (k : Nat) (ha : a.length ≤ 2100000) (hk : 2100001 < k) : laws_eqIntS.f k a a = some true := by
  unfold laws_eqIntS.f
  rw [if_pos rfl]
  have h := eqIntS_loop a a (by omega) (by omega) a.length 0 k (by omega) (by omega)
  simpa using h





theorem depFrom_asc : ∀ (l : List S83) (o : Option S83), depFrom o l = true → l.Pairwise (fun a b => ltp a b = true) ∧ (∀ x ∈ l, inp x = true) ∧ (∀ q, o = some q → ∀ x ∈ l, ltp q x = true)
  | [], _, _ => ⟨by simp, by simp, by simp⟩
  | c :: r, o, h => by
    have h2 : inp c = true ∧ depFrom (some c) r = true ∧ (∀ q, o = some q → ltp q c = true) := by
      cases o with
      | none => simp only [depFrom, Bool.and_eq_true] at h; exact ⟨h.1, h.2, by simp⟩
      | some q => simp only [depFrom, Bool.and_eq_true] at h; exact ⟨h.1, h.2.2, fun q' e => by injection e with e; subst e; exact h.2.1⟩
    obtain ⟨p1, p2, p3⟩ := depFrom_asc r (some c) h2.2.1
    refine ⟨List.pairwise_cons.2 ⟨p3 c rfl, p1⟩, fun x hx => ?_, fun q e x hx => ?_⟩
    · rcases List.mem_cons.1 hx with rfl | hx
      · exact h2.1
      · exact p2 x hx
    · rcases List.mem_cons.1 hx with rfl | hx
      · exact h2.2.2 q e
      · have a := h2.2.2 q e
        have b := p3 c rfl x hx
        unfold ltp at *
        simp only [Bool.or_eq_true, Bool.and_eq_true, decide_eq_true_eq] at *
        omega
theorem depFrom_of : ∀ (l : List S83) (o : Option S83), l.Pairwise (fun a b => ltp a b = true) → (∀ x ∈ l, inp x = true) → (∀ q, o = some q → ∀ x ∈ l, ltp q x = true) → depFrom o l = true
  | [], o, _, _, _ => by cases o <;> rfl
  | c :: r, o, h1, h2, h3 => by
    obtain ⟨a, b⟩ := List.pairwise_cons.1 h1
    have ih := depFrom_of r (some c) b (fun x hx => h2 x (List.mem_cons_of_mem _ hx)) (fun q e x hx => by injection e with e; subst e; exact a x hx)
    cases o with
    | none => simp only [depFrom, ih, h2 c List.mem_cons_self, Bool.and_self]
    | some q => simp only [depFrom, ih, h2 c List.mem_cons_self, h3 q rfl c List.mem_cons_self, Bool.and_self]
theorem depOk_iff (l : List S83) : depOk l = true ↔ l.Pairwise (fun a b => ltp a b = true) ∧ ∀ x ∈ l, inp x = true :=
  ⟨fun h => ⟨(depFrom_asc l none h).1, (depFrom_asc l none h).2.1⟩, fun h => depFrom_of l none h.1 h.2 (by simp)⟩

theorem ordIn_eq (p : S83) : ordIn p = inp p := by
  unfold ordIn inp inR
  by_cases h : 0 ≤ p.f0 ∧ p.f0 ≤ 127 ∧ 0 ≤ p.f1 ∧ p.f1 ≤ 127
  · rw [decide_eq_true h]; simp [h]
  · rw [decide_eq_false h]
    simp only [Bool.false_eq, Bool.and_eq_false_iff, decide_eq_false_iff_not]
    omega
def allR (r : List Int) (i d : Nat) : Bool := (List.range' i d).all fun (j : Nat) => decide ((j : Int) ∈ r)
def ordM (l : List S83) (r : List Int) : Bool := depOk l && (decide (r.length = 128) && (allR r 0 128 && !(l.any (ordP r))))
theorem impl_order_loop (r : List Int) (hr : r.length ≤ 1048576) : ∀ (d i k : Nat), i + d = 128 → 1048600 + d < k → impl_IsOrder.l0 k r (i : Int) = some (allR r i d) := by
  intro d
  induction d with
  | zero =>
    intro i k hi hk
    obtain ⟨k, rfl⟩ : ∃ m, k = m + 1 := ⟨k - 1, by omega⟩
    simp only [impl_IsOrder.l0]
    rw [if_neg (by omega)]
    rfl
  | succ d ih =>
    intro i k hi hk
    obtain ⟨k, rfl⟩ : ∃ m, k = m + 1 := ⟨k - 1, by omega⟩
    simp only [impl_IsOrder.l0]
    rw [if_pos (by omega), slicesContains_eq r _ k hr (by omega)]
    simp only [Option.bind_some]
    have e2 : allR r i (d + 1) = (decide ((i : Int) ∈ r) && allR r (i + 1) d) := by unfold allR; rw [List.range'_succ, List.all_cons]
    rw [e2]
    by_cases q : (i : Int) ∈ r
    · rw [if_pos (decide_eq_true q), w64s (by omega), ih (i + 1) k (by omega) (by omega), decide_eq_true q, Bool.true_and]
    · rw [if_neg (by simpa using q), decide_eq_false q, Bool.false_and]
theorem impl_IsOrder_eq (l : List S83) (r : List Int) (k : Nat) (hl : l.length ≤ 1048576) (hr : r.length ≤ 1048576) (hk : 1050000 < k) : impl_IsOrder.f k l r = some (ordM l r) := by
  unfold impl_IsOrder.f ordM
  rw [impl_DependsOk_eq l k hl (by omega)]
  simp only [Option.bind_some]
  by_cases c : depOk l = true
  · rw [if_pos c]
    by_cases c2 : r.length = 128
    · have e := impl_order_loop r hr 128 0 k (by omega) (by omega)
      rw [show ((0 : Nat) : Int) = 0 from rfl] at e
      rw [if_pos (by omega), e]
      simp only [Option.bind_some]
      by_cases c3 : allR r 0 128 = true
      · rw [if_pos c3, if_pos (List.all_eq_true.2 fun p hp => by rw [ordIn_eq]; exact ((depOk_iff l).1 c).2 p hp), c, c3, decide_eq_true c2]; rfl
      · rw [if_neg c3]; simp [c3]
    · rw [if_neg (by omega)]; simp [c2]
  · rw [if_neg c]; simp [c]

theorem spec_order_l1 (l : List S83) (r : List Int) (hl : l.length ≤ 1048576) (hr : r.length = 128) (hin : ∀ x ∈ l, inp x = true) : ∀ (d i k : Nat), i + d = l.length → d < k → spec_IsOrder.l1 k l r (i : Int) = some (!((l.drop i).any (ordP r))) := by
  intro d
  induction d with
  | zero =>
    intro i k hi hk
    obtain ⟨k, rfl⟩ : ∃ m, k = m + 1 := ⟨k - 1, by omega⟩
    simp only [spec_IsOrder.l1]
    rw [if_neg (by omega), List.drop_eq_nil_of_le (by omega)]
    rfl
  | succ d ih =>
    intro i k hi hk
    obtain ⟨k, rfl⟩ : ∃ m, k = m + 1 := ⟨k - 1, by omega⟩
    simp only [spec_IsOrder.l1]
    have b := hin (rd_T83 l (i : Int)) (by rw [rdp_nat l i (by omega)]; exact List.getElem_mem _)
    unfold inp inR at b
    simp only [Bool.and_eq_true, decide_eq_true_eq] at b
    rw [if_pos (by omega), if_pos (by omega), if_pos (by omega), if_pos (by omega), if_pos (by omega), if_pos (by omega), drop_rdp l i (by omega), List.any_cons]
    by_cases q : rd r (rd_T83 l (i : Int)).f0 ≥ rd r (rd_T83 l (i : Int)).f1
    · have e : ordP r (rd_T83 l (i : Int)) = true := decide_eq_true q
      rw [if_pos q, e]; rfl
    · have e : ordP r (rd_T83 l (i : Int)) = false := decide_eq_false q
      rw [if_neg q, w64s (by omega), ih (i + 1) k (by omega) (by omega), e, Bool.false_or]
theorem spec_order_l0 (l : List S83) (r : List Int) (hl : l.length ≤ 1048576) (hr : r.length = 128) (hin : ∀ x ∈ l, inp x = true) : ∀ (d i k : Nat), i + d = 128 → 1048700 + d < k → spec_IsOrder.l0 k l r (i : Int) = some (allR r i d && !(l.any (ordP r))) := by
  intro d
  induction d with
  | zero =>
    intro i k hi hk
    obtain ⟨k, rfl⟩ : ∃ m, k = m + 1 := ⟨k - 1, by omega⟩
    simp only [spec_IsOrder.l0]
    have e := spec_order_l1 l r hl hr hin l.length 0 k (by omega) (by omega)
    rw [show ((0 : Nat) : Int) = 0 from rfl, List.drop_zero] at e
    rw [if_neg (by omega), e]
    rfl
  | succ d ih =>
    intro i k hi hk
    obtain ⟨k, rfl⟩ : ∃ m, k = m + 1 := ⟨k - 1, by omega⟩
    simp only [spec_IsOrder.l0]
    rw [if_pos (by omega), l03Find_eq r _ k (by omega) (by omega)]
    simp only [Option.bind_some]
    have e2 : allR r i (d + 1) = (decide ((i : Int) ∈ r) && allR r (i + 1) d) := by unfold allR; rw [List.range'_succ, List.all_cons]
    rw [e2]
    by_cases q : (i : Int) ∈ r
    · rw [if_pos (decide_eq_true q), w64s (by omega), ih (i + 1) k (by omega) (by omega), decide_eq_true q, Bool.true_and]
    · rw [if_neg (by simpa using q), decide_eq_false q, Bool.false_and, Bool.false_and]
theorem spec_IsOrder_eq (l : List S83) (r : List Int) (k : Nat) (hl : l.length ≤ 1048576) (hr : r.length ≤ 1048576) (hk : 1050000 < k) : spec_IsOrder.f k l r = some (ordM l r) := by
  obtain ⟨k, rfl⟩ : ∃ m, k = m + 1 := ⟨k - 1, by omega⟩
  unfold spec_IsOrder.f ordM
  rw [spec_DependsOk_eq l (k + 1) hl (by omega)]
  simp only [Option.bind_some]
  by_cases c : depOk l = true
  · rw [if_pos c]
    simp only [spec_IsOrder.j0]
    by_cases c2 : r.length = 128
    · have e := spec_order_l0 l r hl c2 ((depOk_iff l).1 c).2 128 0 k (by omega) (by omega)
      rw [show ((0 : Nat) : Int) = 0 from rfl] at e
      rw [if_neg (by simp; omega), e, c, decide_eq_true c2]
      rfl
    · rw [if_pos (by simp; omega)]; simp [c2]
  · rw [if_neg c]
    simp only [spec_IsOrder.j0]
    rw [if_pos trivial]; simp [c]

theorem FnExactIsOrder : laws_FnExactIsOrder.Pure := by
  intro l r hl _ _ _ _
  obtain ⟨k, hk⟩ : ∃ k : Nat, 4000000 ≤ k := ⟨_, Nat.le_refl _⟩
  refine ⟨k, ?_⟩
  unfold laws_FnExactIsOrder.f
  by_cases cr : (r.length : Int) > 1048576
  · rw [if_pos cr]
  rw [if_neg cr, szDependS_eq l 1048576 (by omega) hl]
  simp only [Option.bind_some]
  by_cases q : (l.length : Int) ≤ 1048576
  · have hc := cv_len l
    rw [if_pos q, if_neg (by omega)]
    simp only [toDependS_eq l k (by omega) (by omega), toIntS_eq r k (by omega) (by omega), spec_IsOrder_eq (cv l) r k (by omega) (by omega) (by omega), impl_IsOrder_eq (cv l) r k (by omega) (by omega) (by omega), eqDependS_self (cv l) k (by omega) (by omega), eqIntS_self r k (by omega) (by omega), Option.bind_some, if_true]
    simp
  · rw [if_neg q, if_pos (by omega)]

end Go.Proofs.Ytmfkgnfjjfnfmaa.Pure
