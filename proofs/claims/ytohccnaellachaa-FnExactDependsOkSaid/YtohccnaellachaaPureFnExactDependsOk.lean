/- What is proved: the statement FnExactDependsOk, in its pure form, over numbers and lists: the program's and the reference's DependsOk agree for all lists, and the argument stays (no conditions). -/
import Derived.Test.YtohccnaellachaaX15
import Derived.Test.YtohccnaellachaaModel
set_option linter.unusedVariables false
set_option linter.unusedSimpArgs false
namespace Go.Proofs.Ytohccnaellachaa.Pure
open Go.RowKit Go.Proofs.Ytohccnaellachaa.X Go.Proofs.Ytohccnaellachaa.M Go.Proofs.YtohccnaellachaaW.PrintWords Go.Proofs.YtohccnaellachaaW.PrintLast
theorem rd_nat (l : List Int) (i : Nat) (h : i < l.length) : rd l (i : Int) = l[i] := by unfold rd; simp [h]
theorem drop_rd (l : List Int) (i : Nat) (h : i < l.length) : l.drop i = rd l (i : Int) :: l.drop (i + 1) := by
  rw [rd_nat l i h]; exact List.drop_eq_getElem_cons h
theorem w64s {i : Nat} (h : i ≤ 9223372036854775806) : wrap64 ((i : Int) + 1) = ((i + 1 : Nat) : Int) := by rw [wrap64_id (by omega) (by omega)]; omega
theorem w64p {i : Nat} (h : i ≤ 9223372036854775806) (h0 : 0 < i) : wrap64 ((i : Int) - 1) = ((i - 1 : Nat) : Int) := by rw [wrap64_id (by omega) (by omega)]; omega

theorem impl_inside_eq (a b c : Int) : impl_inside.f a b c = some (inR a b c) := by
  unfold impl_inside.f inR
  by_cases h : b ≤ a <;> simp [h]

theorem spec_l01In_eq (a b c : Int) : spec_l01In.f a b c = some (inR a b c) := by
  unfold spec_l01In.f inR
  by_cases h : b ≤ a <;> simp [h]

theorem szDependS_eq (l : List S77) (a : Int) (h : 0 ≤ a ∧ a ≤ 1048576) (hl : l.length ≤ maxLen) : laws_szDependS.f l a = some (if (l.length : Int) ≤ a then a - l.length else -1) := by
  unfold maxLen at hl
  unfold laws_szDependS.f
  rw [wrap64_id (by omega) (by omega)]
  by_cases c : (l.length : Int) ≤ a
  · rw [if_neg (by omega), if_pos c]
  · rw [if_pos (by omega), if_neg c]
/-- a law's list as the program's -/
def cv (l : List S77) : List S74 := l.map fun y => ⟨y.f0, y.f1⟩
theorem cv_len (l : List S77) : (cv l).length = l.length := by simp [cv]
theorem toDependS_loop (x0 : List S77) (hn : x0.length ≤ 9223372036854775806) : ∀ (d i k : Nat) (x3 : List S74), i + d = x0.length → d < k → x3.length = x0.length → (∀ j, j < i → x3[j]? = (cv x0)[j]?) → laws_toDependS.l0 k x0 x3 (i : Int) = some (cv x0) := by
  intro d
  induction d with
  | zero =>
    intro i k x3 hi hk hl hx
    obtain ⟨k, rfl⟩ : ∃ m, k = m + 1 := ⟨k - 1, by omega⟩
    simp only [laws_toDependS.l0]
    rw [if_neg (by omega)]
    congr 1
    apply List.ext_getElem?
    intro j
    by_cases hj : j < x0.length
    · exact hx j (by omega)
    · rw [List.getElem?_eq_none (by omega), List.getElem?_eq_none (by rw [cv_len]; omega)]
  | succ d ih =>
    intro i k x3 hi hk hl hx
    obtain ⟨k, rfl⟩ : ∃ m, k = m + 1 := ⟨k - 1, by omega⟩
    simp only [laws_toDependS.l0, laws_toDepend.f, Option.bind_some]
    rw [if_pos (by omega), if_pos (by omega), if_pos (by omega), w64s (by omega)]
    refine ih (i + 1) k _ (by omega) (by omega) (by simpa using hl) fun j hj => ?_
    have e : ((i : Int)).toNat = i := by simp
    rw [e, List.getElem?_set]
    by_cases c : i = j
    · subst c
      rw [if_pos rfl, if_pos (by omega)]
      unfold rd_T77 cv
      simp [show i < x0.length by omega]
    · rw [if_neg c]; exact hx j (by omega)
theorem toDependS_eq (l : List S77) (k : Nat) (hl : l.length ≤ 1048576) (hk : 1048577 < k) : laws_toDependS.f k l = some (cv l) := by
  unfold laws_toDependS.f
  rw [if_pos (by omega), if_pos (by simp; omega)]
  exact toDependS_loop l (by omega) l.length 0 k _ (by omega) (by omega) (by simp) (by simp)

theorem rdp_nat (l : List S74) (i : Nat) (h : i < l.length) : rd_T74 l (i : Int) = l[i] := by unfold rd_T74; simp [h]
theorem drop_rdp (l : List S74) (i : Nat) (h : i < l.length) : l.drop i = rd_T74 l (i : Int) :: l.drop (i + 1) := by
  rw [rdp_nat l i h]; exact List.drop_eq_getElem_cons h
/-- equal lists of pairs -/
def samep : List S74 → List S74 → Bool
  | [], [] => true
  | x :: a, y :: b => decide (x.f0 = y.f0) && (decide (x.f1 = y.f1) && samep a b)
  | _, _ => false
theorem samep_iff : ∀ a b : List S74, samep a b = true ↔ a = b
  | [], [] => by simp [samep]
  | [], y :: b => by simp [samep]
  | x :: a, [] => by simp [samep]
  | x :: a, y :: b => by
    have := samep_iff a b
    cases x; cases y
    simp [samep, this, and_assoc]
theorem eqDependS_loop (a b : List S74) (hl : a.length = b.length) (hn : a.length ≤ 9223372036854775806) : ∀ (d i k : Nat), i + d = a.length → d < k → laws_eqDependS.l0 k a b (i : Int) = some (samep (a.drop i) (b.drop i)) := by
  intro d
  induction d with
  | zero =>
    intro i k hi hk
    obtain ⟨k, rfl⟩ : ∃ m, k = m + 1 := ⟨k - 1, by omega⟩
    simp only [laws_eqDependS.l0]
    rw [if_neg (by omega), List.drop_eq_nil_of_le (by omega), List.drop_eq_nil_of_le (by omega)]
    simp [samep]
  | succ d ih =>
    intro i k hi hk
    obtain ⟨k, rfl⟩ : ∃ m, k = m + 1 := ⟨k - 1, by omega⟩
    simp only [laws_eqDependS.l0, laws_eqDepend.f]
    rw [if_pos (by omega), if_pos (by omega), if_pos (by omega), drop_rdp a i (by omega), drop_rdp b i (by omega)]
    simp only [samep]
    by_cases c : (rd_T74 a (i : Int)).f0 = (rd_T74 b (i : Int)).f0
    · rw [if_pos c]
      by_cases c2 : (rd_T74 a (i : Int)).f1 = (rd_T74 b (i : Int)).f1
      · rw [if_pos c2]
        simp only [Option.bind_some, if_true]
        rw [w64s (by omega), ih (i + 1) k (by omega) (by omega)]
        simp [c, c2]
      · rw [if_neg c2]; simp [c, c2]
    · rw [if_neg c]; simp [c]
theorem eqDependS_eq (a b : List S74) (k : Nat) (ha : a.length ≤ 1048576) (hk : 1048577 < k) : laws_eqDependS.f k a b = some (samep a b) := by
  unfold laws_eqDependS.f
  by_cases c : (a.length : Int) = (b.length : Int)
  · rw [if_pos c]
    have h := eqDependS_loop a b (by omega) (by omega) a.length 0 k (by omega) (by omega)
    rw [show ((0 : Nat) : Int) = 0 from rfl] at h
    rw [h]
    simp only [List.drop_zero]
  · rw [if_neg c]
    have : ¬ samep a b = true := fun e => c (by rw [(samep_iff a b).1 e])
    simp [this]
theorem eqDependS_self (a : List S74) (k : Nat) (ha : a.length ≤ 1048576) (hk : 1048577 < k) : laws_eqDependS.f k a a = some true := by rw [eqDependS_eq a a k ha hk, (samep_iff a a).2 rfl]

def ltp (p q : S74) : Bool := decide (p.f0 < q.f0) || (decide (p.f0 = q.f0) && decide (p.f1 < q.f1))
def inp (p : S74) : Bool := inR p.f0 0 127 && inR p.f1 0 127
def depFrom : Option S74 → List S74 → Bool
  | _, [] => true
  | none, c :: r => inp c && depFrom (some c) r
  | some q, c :: r => inp c && (ltp q c && depFrom (some c) r)
def depOk (l : List S74) : Bool := depFrom none l
theorem spec_DependsOk_loop (l : List S74) (hn : l.length ≤ 9223372036854775806) : ∀ (d i k : Nat), i + d = l.length → d < k → spec_DependsOk.l0 k l (i : Int) = some (depFrom (if i = 0 then none else some (rd_T74 l ((i - 1 : Nat) : Int))) (l.drop i)) := by
  intro d
  induction d with
  | zero =>
    intro i k hi hk
    obtain ⟨k, rfl⟩ : ∃ m, k = m + 1 := ⟨k - 1, by omega⟩
    simp only [spec_DependsOk.l0]
    rw [if_neg (by omega), List.drop_eq_nil_of_le (by omega)]
    simp [depFrom]
  | succ d ih =>
    intro i k hi hk
    obtain ⟨k, rfl⟩ : ∃ m, k = m + 1 := ⟨k - 1, by omega⟩
    simp only [spec_DependsOk.l0, spec_l01In_eq, Option.bind_some]
    rw [if_pos (by omega), if_pos (by omega), drop_rdp l i (by omega)]
    have e := ih (i + 1) k (by omega) (by omega)
    rw [if_neg (by omega), show i + 1 - 1 = i from by omega] at e
    by_cases c : inR (rd_T74 l (i : Int)).f0 0 127 = true
    · rw [if_pos c]
      by_cases c2 : inR (rd_T74 l (i : Int)).f1 0 127 = true
      · rw [if_pos c2]
        by_cases z : i = 0
        · subst z
          rw [if_neg (by simp), w64s (by omega), e, if_pos rfl]
          simp only [depFrom, inp, c, c2, Bool.true_and, Bool.and_self]
        · rw [if_pos (by omega), w64p (by omega) (by omega), if_pos (by omega), if_pos (by omega), if_neg z]
          simp only [depFrom, inp, c, c2, Bool.true_and]
          have el : spec_l08Less.f (rd_T74 l ((i - 1 : Nat) : Int)).f0 (rd_T74 l ((i - 1 : Nat) : Int)).f1 (rd_T74 l (i : Int)).f0 (rd_T74 l (i : Int)).f1 = some (ltp (rd_T74 l ((i - 1 : Nat) : Int)) (rd_T74 l (i : Int))) := by
            unfold spec_l08Less.f ltp
            by_cases q : (rd_T74 l ((i - 1 : Nat) : Int)).f0 < (rd_T74 l (i : Int)).f0
            · rw [if_pos q]; simp [q]
            · rw [if_neg q]
              by_cases q2 : (rd_T74 l ((i - 1 : Nat) : Int)).f0 = (rd_T74 l (i : Int)).f0
              · rw [if_pos q2]; simp [q2]
              · rw [if_neg q2]; simp [q, q2]
          rw [el]
          simp only [Option.bind_some]
          by_cases q : ltp (rd_T74 l ((i - 1 : Nat) : Int)) (rd_T74 l (i : Int)) = true
          · rw [if_pos q, w64s (by omega), e, q]; simp
          · rw [if_neg q]; simp [q]
      · rw [if_neg c2]
        by_cases z : i = 0 <;> simp [z, depFrom, inp, c2]
        · subst z; simp at c2; simp [c2]
    · rw [if_neg c]
      by_cases z : i = 0 <;> simp [z, depFrom, inp, c]
      · subst z; simp at c; simp [c]
theorem spec_DependsOk_eq (l : List S74) (k : Nat) (hl : l.length ≤ 1048576) (hk : 1048577 < k) : spec_DependsOk.f k l = some (depOk l) := by
  unfold spec_DependsOk.f depOk
  have e := spec_DependsOk_loop l (by omega) l.length 0 k (by omega) (by omega)
  simpa using e
theorem compare_eq (p q : S74) (hp : inp p = true) (hq : inp q = true) : ∃ r, impl_compareDepends.f p.f0 p.f1 q.f0 q.f1 = some r ∧ (0 ≤ r ↔ ltp p q = false) ∧ (r < 0 ↔ ltp p q = true) ∧ (r = 0 ↔ p = q) := by
  unfold inp at hp hq
  rw [Bool.and_eq_true, inR_iff, inR_iff] at hp hq
  cases p; cases q
  simp only at hp hq
  unfold impl_compareDepends.f ltp
  simp only
  split
  · rename_i c
    refine ⟨_, rfl, ?_⟩
    rw [wrap64_id (by omega) (by omega)]
    simp [c]
    omega
  · rename_i c
    refine ⟨_, rfl, ?_⟩
    rw [wrap64_id (by omega) (by omega)]
    simp [c]
    omega
theorem impl_DependsOk_loop (l : List S74) (hn : l.length ≤ 9223372036854775806) : ∀ (d i k : Nat), i + d = l.length → d < k → (0 < i → inp (rd_T74 l ((i - 1 : Nat) : Int)) = true) → impl_DependsOk.l0 k l l (l.length : Int) (i : Int) = some (depFrom (if i = 0 then none else some (rd_T74 l ((i - 1 : Nat) : Int))) (l.drop i)) := by
  intro d
  induction d with
  | zero =>
    intro i k hi hk hp
    obtain ⟨k, rfl⟩ : ∃ m, k = m + 1 := ⟨k - 1, by omega⟩
    simp only [impl_DependsOk.l0]
    rw [if_neg (by omega), List.drop_eq_nil_of_le (by omega)]
    simp [depFrom]
  | succ d ih =>
    intro i k hi hk hp
    obtain ⟨k, rfl⟩ : ∃ m, k = m + 1 := ⟨k - 1, by omega⟩
    simp only [impl_DependsOk.l0, impl_inside_eq, Option.bind_some]
    rw [if_pos (by omega), if_pos (by omega), if_pos (by omega), drop_rdp l i (by omega)]
    have e := ih (i + 1) k (by omega) (by omega)
    rw [if_neg (by omega), show i + 1 - 1 = i from by omega] at e
    by_cases c : inR (rd_T74 l (i : Int)).f0 0 127 = true
    · rw [if_pos c]
      by_cases c2 : inR (rd_T74 l (i : Int)).f1 0 127 = true
      · rw [if_pos c2]
        have hi' : inp (rd_T74 l (i : Int)) = true := by unfold inp; rw [c, c2]; rfl
        have e := e (fun _ => hi')
        by_cases z : i = 0
        · subst z
          rw [if_neg (by simp), w64s (by omega), e, if_pos rfl]
          simp only [depFrom, inp, c, c2, Bool.true_and, Bool.and_self]
        · rw [if_pos (by omega), w64p (by omega) (by omega), if_pos (by omega), if_pos (by omega), if_neg z]
          obtain ⟨r, er, r0, r1, _⟩ := compare_eq _ _ (hp (by omega)) hi'
          rw [er]
          simp only [Option.bind_some, depFrom, hi', Bool.true_and]
          by_cases q : r ≥ 0
          · rw [if_pos q, r0.1 q]; simp
          · rw [if_neg q, w64s (by omega), e, r1.1 (by omega)]; simp
      · rw [if_neg c2]
        by_cases z : i = 0 <;> simp [z, depFrom, inp, c2]
        · subst z; simp at c2; simp [c2]
    · rw [if_neg c]
      by_cases z : i = 0 <;> simp [z, depFrom, inp, c]
      · subst z; simp at c; simp [c]
theorem impl_DependsOk_eq (l : List S74) (k : Nat) (hl : l.length ≤ 1048576) (hk : 1048577 < k) : impl_DependsOk.f k l = some (depOk l) := by
  unfold impl_DependsOk.f depOk
  have e := impl_DependsOk_loop l (by omega) l.length 0 k (by omega) (by omega) (by simp)
  simpa using e

theorem FnExactDependsOk : laws_FnExactDependsOk.Pure := by
  intro l hl _
  obtain ⟨k, hk⟩ : ∃ k : Nat, 3000000 ≤ k := ⟨_, Nat.le_refl _⟩
  refine ⟨k, ?_⟩
  unfold laws_FnExactDependsOk.f
  rw [szDependS_eq l 1048576 (by omega) hl]
  simp only [Option.bind_some]
  by_cases c : (l.length : Int) ≤ 1048576
  · have hc := cv_len l
    rw [if_pos c, if_neg (by omega)]
    simp only [toDependS_eq l k (by omega) (by omega), spec_DependsOk_eq (cv l) k (by omega) (by omega), impl_DependsOk_eq (cv l) k (by omega) (by omega), eqDependS_self (cv l) k (by omega) (by omega), Option.bind_some, if_true]
    simp
  · rw [if_neg c, if_pos (by omega)]

end Go.Proofs.Ytohccnaellachaa.Pure
