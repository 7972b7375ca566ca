/- What is proved: the statement FnExactShiftDepends, in its pure form, over numbers and lists: the program's and the reference's ShiftDepends agree for all arguments, the argument stays, and the result is the caller's own (no conditions). -/
import Derived.Test.YtohccnaellachabX25
import Derived.Test.YtohccnaellachabModel
set_option linter.unusedVariables false
set_option linter.unusedSimpArgs false
namespace Go.Proofs.Ytohccnaellachab.Pure
open Go.RowKit Go.Proofs.Ytohccnaellachab.X Go.Proofs.Ytohccnaellachab.M Go.Proofs.YtohccnaellachabW.PrintWords Go.Proofs.YtohccnaellachabW.PrintLast
theorem rd_nat (l : List Int) (i : Nat) (h : i < l.length) : rd l (i : Int) = l[i] := by unfold rd; simp [h]
theorem drop_rd (l : List Int) (i : Nat) (h : i < l.length) : l.drop i = rd l (i : Int) :: l.drop (i + 1) := by
  rw [rd_nat l i h]; exact List.drop_eq_getElem_cons h
theorem w64s {i : Nat} (h : i ≤ 9223372036854775806) : wrap64 ((i : Int) + 1) = ((i + 1 : Nat) : Int) := by rw [wrap64_id (by omega) (by omega)]; omega
theorem w64p {i : Nat} (h : i ≤ 9223372036854775806) (h0 : 0 < i) : wrap64 ((i : Int) - 1) = ((i - 1 : Nat) : Int) := by rw [wrap64_id (by omega) (by omega)]; omega

theorem impl_inside_eq (a b c : Int) : impl_inside.f a b c = some (inR a b c) := by
  unfold impl_inside.f inR
  by_cases h : b ≤ a <;> simp [h]

theorem spec_l01In_eq (a b c : Int) : spec_l01In.f a b c = some (inR a b c) := by
  unfold spec_l01In.f inR
  by_cases h : b ≤ a <;> simp [h]

theorem szDependS_eq (l : List S89) (a : Int) (h : 0 ≤ a ∧ a ≤ 1048576) (hl : l.length ≤ maxLen) : laws_szDependS.f l a = some (if (l.length : Int) ≤ a then a - l.length else -1) := by
  unfold maxLen at hl
  unfold laws_szDependS.f
  rw [wrap64_id (by omega) (by omega)]
  by_cases c : (l.length : Int) ≤ a
  · rw [if_neg (by omega), if_pos c]
  · rw [if_pos (by omega), if_neg c]
/-- a law's list as the program's -/
def cv (l : List S89) : List S87 := l.map fun y => ⟨y.f0, y.f1⟩
theorem cv_len (l : List S89) : (cv l).length = l.length := by simp [cv]
theorem toDependS_loop (x0 : List S89) (hn : x0.length ≤ 9223372036854775806) : ∀ (d i k : Nat) (x3 : List S87), i + d = x0.length → d < k → x3.length = x0.length → (∀ j, j < i → x3[j]? = (cv x0)[j]?) → laws_toDependS.l0 k x0 x3 (i : Int) = some (cv x0) := by
  intro d
  induction d with
  | zero =>
    intro i k x3 hi hk hl hx
    obtain ⟨k, rfl⟩ : ∃ m, k = m + 1 := ⟨k - 1, by omega⟩
    simp only [laws_toDependS.l0]
    rw [if_neg (by omega)]
    congr 1
    apply List.ext_getElem?
    intro j
    by_cases hj : j < x0.length
    · exact hx j (by omega)
    · rw [List.getElem?_eq_none (by omega), List.getElem?_eq_none (by rw [cv_len]; omega)]
  | succ d ih =>
    intro i k x3 hi hk hl hx
    obtain ⟨k, rfl⟩ : ∃ m, k = m + 1 := ⟨k - 1, by omega⟩
    simp only [laws_toDependS.l0, laws_toDepend.f, Option.bind_some]
    rw [if_pos (by omega), if_pos (by omega), if_pos (by omega), w64s (by omega)]
    refine ih (i + 1) k _ (by omega) (by omega) (by simpa using hl) fun j hj => ?_
    have e : ((i : Int)).toNat = i := by simp
    rw [e, List.getElem?_set]
    by_cases c : i = j
    · subst c
      rw [if_pos rfl, if_pos (by omega)]
      unfold rd_T89 cv
      simp [show i < x0.length by omega]
    · rw [if_neg c]; exact hx j (by omega)
theorem toDependS_eq (l : List S89) (k : Nat) (hl : l.length ≤ 1048576) (hk : 1048577 < k) : laws_toDependS.f k l = some (cv l) := by
  unfold laws_toDependS.f
  rw [if_pos (by omega), if_pos (by simp; omega)]
  exact toDependS_loop l (by omega) l.length 0 k _ (by omega) (by omega) (by simp) (by simp)

theorem rdp_nat (l : List S87) (i : Nat) (h : i < l.length) : rd_T87 l (i : Int) = l[i] := by unfold rd_T87; simp [h]
theorem drop_rdp (l : List S87) (i : Nat) (h : i < l.length) : l.drop i = rd_T87 l (i : Int) :: l.drop (i + 1) := by
  rw [rdp_nat l i h]; exact List.drop_eq_getElem_cons h
/-- equal lists of pairs -/
def samep : List S87 → List S87 → Bool
  | [], [] => true
  | x :: a, y :: b => decide (x.f0 = y.f0) && (decide (x.f1 = y.f1) && samep a b)
  | _, _ => false
theorem samep_iff : ∀ a b : List S87, samep a b = true ↔ a = b
  | [], [] => by simp [samep]
  | [], y :: b => by simp [samep]
  | x :: a, [] => by simp [samep]
  | x :: a, y :: b => by
    have := samep_iff a b
    cases x; cases y
    simp [samep, this, and_assoc]
theorem eqDependS_loop (a b : List S87) (hl : a.length = b.length) (hn : a.length ≤ 9223372036854775806) : ∀ (d i k : Nat), i + d = a.length → d < k → laws_eqDependS.l0 k a b (i : Int) = some (samep (a.drop i) (b.drop i)) := by
  intro d
  induction d with
  | zero =>
    intro i k hi hk
    obtain ⟨k, rfl⟩ : ∃ m, k = m + 1 := ⟨k - 1, by omega⟩
    simp only [laws_eqDependS.l0]
    rw [if_neg (by omega), List.drop_eq_nil_of_le (by omega), List.drop_eq_nil_of_le (by omega)]
    simp [samep]
  | succ d ih =>
    intro i k hi hk
    obtain ⟨k, rfl⟩ : ∃ m, k = m + 1 := ⟨k - 1, by omega⟩
    simp only [laws_eqDependS.l0, laws_eqDepend.f]
    rw [if_pos (by omega), if_pos (by omega), if_pos (by omega), drop_rdp a i (by omega), drop_rdp b i (by omega)]
    simp only [samep]
    by_cases c : (rd_T87 a (i : Int)).f0 = (rd_T87 b (i : Int)).f0
    · rw [if_pos c]
      by_cases c2 : (rd_T87 a (i : Int)).f1 = (rd_T87 b (i : Int)).f1
      · rw [if_pos c2]
        simp only [Option.bind_some, if_true]
        rw [w64s (by omega), ih (i + 1) k (by omega) (by omega)]
        simp [c, c2]
      · rw [if_neg c2]; simp [c, c2]
    · rw [if_neg c]; simp [c]
theorem eqDependS_eq (a b : List S87) (k : Nat) (ha : a.length ≤ 1048576) (hk : 1048577 < k) : laws_eqDependS.f k a b = some (samep a b) := by
  unfold laws_eqDependS.f
  by_cases c : (a.length : Int) = (b.length : Int)
  · rw [if_pos c]
    have h := eqDependS_loop a b (by omega) (by omega) a.length 0 k (by omega) (by omega)
    rw [show ((0 : Nat) : Int) = 0 from rfl] at h
    rw [h]
    simp only [List.drop_zero]
  · rw [if_neg c]
    have : ¬ samep a b = true := fun e => c (by rw [(samep_iff a b).1 e])
    simp [this]
theorem eqDependS_self (a : List S87) (k : Nat) (ha : a.length ≤ 1048576) (hk : 1048577 < k) : laws_eqDependS.f k a a = some true := by rw [eqDependS_eq a a k ha hk, (samep_iff a a).2 rfl]

def ltp (p q : S87) : Bool := decide (p.f0 < q.f0) || (decide (p.f0 = q.f0) && decide (p.f1 < q.f1))
def inp (p : S87) : Bool := inR p.f0 0 127 && inR p.f1 0 127
def depFrom : Option S87 → List S87 → Bool
  | _, [] => true
  | none, c :: r => inp c && depFrom (some c) r
  | some q, c :: r => inp c && (ltp q c && depFrom (some c) r)
def depOk (l : List S87) : Bool := depFrom none l
theorem spec_DependsOk_loop (l : List S87) (hn : l.length ≤ 9223372036854775806) : ∀ (d i k : Nat), i + d = l.length → d < k → spec_DependsOk.l0 k l (i : Int) = some (depFrom (if i = 0 then none else some (rd_T87 l ((i - 1 : Nat) : Int))) (l.drop i)) := by
  intro d
  induction d with
  | zero =>
    intro i k hi hk
    obtain ⟨k, rfl⟩ : ∃ m, k = m + 1 := ⟨k - 1, by omega⟩
    simp only [spec_DependsOk.l0]
    rw [if_neg (by omega), List.drop_eq_nil_of_le (by omega)]
    simp [depFrom]
  | succ d ih =>
    intro i k hi hk
    obtain ⟨k, rfl⟩ : ∃ m, k = m + 1 := ⟨k - 1, by omega⟩
    simp only [spec_DependsOk.l0, spec_l01In_eq, Option.bind_some]
    rw [if_pos (by omega), if_pos (by omega), drop_rdp l i (by omega)]
    have e := ih (i + 1) k (by omega) (by omega)
    rw [if_neg (by omega), show i + 1 - 1 = i from by omega] at e
    by_cases c : inR (rd_T87 l (i : Int)).f0 0 127 = true
    · rw [if_pos c]
      by_cases c2 : inR (rd_T87 l (i : Int)).f1 0 127 = true
      · rw [if_pos c2]
        by_cases z : i = 0
        · subst z
          rw [if_neg (by simp), w64s (by omega), e, if_pos rfl]
          simp only [depFrom, inp, c, c2, Bool.true_and, Bool.and_self]
        · rw [if_pos (by omega), w64p (by omega) (by omega), if_pos (by omega), if_pos (by omega), if_neg z]
          simp only [depFrom, inp, c, c2, Bool.true_and]
          have el : spec_l08Less.f (rd_T87 l ((i - 1 : Nat) : Int)).f0 (rd_T87 l ((i - 1 : Nat) : Int)).f1 (rd_T87 l (i : Int)).f0 (rd_T87 l (i : Int)).f1 = some (ltp (rd_T87 l ((i - 1 : Nat) : Int)) (rd_T87 l (i : Int))) := by
            unfold spec_l08Less.f ltp
            by_cases q : (rd_T87 l ((i - 1 : Nat) : Int)).f0 < (rd_T87 l (i : Int)).f0
            · rw [if_pos q]; simp [q]
            · rw [if_neg q]
              by_cases q2 : (rd_T87 l ((i - 1 : Nat) : Int)).f0 = (rd_T87 l (i : Int)).f0
              · rw [if_pos q2]; simp [q2]
              · rw [if_neg q2]; simp [q, q2]
          rw [el]
          simp only [Option.bind_some]
          by_cases q : ltp (rd_T87 l ((i - 1 : Nat) : Int)) (rd_T87 l (i : Int)) = true
          · rw [if_pos q, w64s (by omega), e, q]; simp
          · rw [if_neg q]; simp [q]
      · rw [if_neg c2]
        by_cases z : i = 0 <;> simp [z, depFrom, inp, c2]
        · subst z; simp at c2; simp [c2]
    · rw [if_neg c]
      by_cases z : i = 0 <;> simp [z, depFrom, inp, c]
      · subst z; simp at c; simp [c]
theorem spec_DependsOk_eq (l : List S87) (k : Nat) (hl : l.length ≤ 1048576) (hk : 1048577 < k) : spec_DependsOk.f k l = some (depOk l) := by
  unfold spec_DependsOk.f depOk
  have e := spec_DependsOk_loop l (by omega) l.length 0 k (by omega) (by omega)
  simpa using e
theorem compare_eq (p q : S87) (hp : inp p = true) (hq : inp q = true) : ∃ r, impl_compareDepends.f p.f0 p.f1 q.f0 q.f1 = some r ∧ (0 ≤ r ↔ ltp p q = false) ∧ (r < 0 ↔ ltp p q = true) ∧ (r = 0 ↔ p = q) := by
  unfold inp at hp hq
  rw [Bool.and_eq_true, inR_iff, inR_iff] at hp hq
  cases p; cases q
  simp only at hp hq
  unfold impl_compareDepends.f ltp
  simp only
  split
  · rename_i c
    refine ⟨_, rfl, ?_⟩
    rw [wrap64_id (by omega) (by omega)]
    simp [c]
    omega
  · rename_i c
    refine ⟨_, rfl, ?_⟩
    rw [wrap64_id (by omega) (by omega)]
    simp [c]
    omega
theorem impl_DependsOk_loop (l : List S87) (hn : l.length ≤ 9223372036854775806) : ∀ (d i k : Nat), i + d = l.length → d < k → (0 < i → inp (rd_T87 l ((i - 1 : Nat) : Int)) = true) → impl_DependsOk.l0 k l l (l.length : Int) (i : Int) = some (depFrom (if i = 0 then none else some (rd_T87 l ((i - 1 : Nat) : Int))) (l.drop i)) := by
  intro d
  induction d with
  | zero =>
    intro i k hi hk hp
    obtain ⟨k, rfl⟩ : ∃ m, k = m + 1 := ⟨k - 1, by omega⟩
    simp only [impl_DependsOk.l0]
    rw [if_neg (by omega), List.drop_eq_nil_of_le (by omega)]
    simp [depFrom]
  | succ d ih =>
    intro i k hi hk hp
    obtain ⟨k, rfl⟩ : ∃ m, k = m + 1 := ⟨k - 1, by omega⟩
    simp only [impl_DependsOk.l0, impl_inside_eq, Option.bind_some]
    rw [if_pos (by omega), if_pos (by omega), if_pos (by omega), drop_rdp l i (by omega)]
    have e := ih (i + 1) k (by omega) (by omega)
    rw [if_neg (by omega), show i + 1 - 1 = i from by omega] at e
    by_cases c : inR (rd_T87 l (i : Int)).f0 0 127 = true
    · rw [if_pos c]
      by_cases c2 : inR (rd_T87 l (i : Int)).f1 0 127 = true
      · rw [if_pos c2]
        have hi' : inp (rd_T87 l (i : Int)) = true := by unfold inp; rw [c, c2]; rfl
        have e := e (fun _ => hi')
        by_cases z : i = 0
        · subst z
          rw [if_neg (by simp), w64s (by omega), e, if_pos rfl]
          simp only [depFrom, inp, c, c2, Bool.true_and, Bool.and_self]
        · rw [if_pos (by omega), w64p (by omega) (by omega), if_pos (by omega), if_pos (by omega), if_neg z]
          obtain ⟨r, er, r0, r1, _⟩ := compare_eq _ _ (hp (by omega)) hi'
          rw [er]
          simp only [Option.bind_some, depFrom, hi', Bool.true_and]
          by_cases q : r ≥ 0
          · rw [if_pos q, r0.1 q]; simp
          · rw [if_neg q, w64s (by omega), e, r1.1 (by omega)]; simp
      · rw [if_neg c2]
        by_cases z : i = 0 <;> simp [z, depFrom, inp, c2]
        · subst z; simp at c2; simp [c2]
    · rw [if_neg c]
      by_cases z : i = 0 <;> simp [z, depFrom, inp, c]
      · subst z; simp at c; simp [c]
theorem impl_DependsOk_eq (l : List S87) (k : Nat) (hl : l.length ≤ 1048576) (hk : 1048577 < k) : impl_DependsOk.f k l = some (depOk l) := by
  unfold impl_DependsOk.f depOk
  have e := impl_DependsOk_loop l (by omega) l.length 0 k (by omega) (by omega) (by simp)
  simpa using e

theorem markDependS_loop (n m0 : Nat) (hn : 2 * n + m0 ≤ 4000000000) : ∀ (d i k : Nat) (x : List S87), i + d = n → d < k → x.length = n → (∀ j, j < i → x[j]? = some ⟨((m0 + 2 * j : Nat) : Int), ((m0 + 2 * j + 1 : Nat) : Int)⟩) → laws_markDependS.l0 k x ((m0 + 2 * i : Nat) : Int) (i : Int) = some (((m0 + 2 * n : Nat) : Int), (List.range n).map fun j => (⟨((m0 + 2 * j : Nat) : Int), ((m0 + 2 * j + 1 : Nat) : Int)⟩ : S87)) := by
  intro d
  induction d with
  | zero =>
    intro i k x hi hk hl hx
    obtain ⟨k, rfl⟩ : ∃ m, k = m + 1 := ⟨k - 1, by omega⟩
    simp only [laws_markDependS.l0]
    rw [if_neg (by omega)]
    have e : x = (List.range n).map fun j => (⟨((m0 + 2 * j : Nat) : Int), ((m0 + 2 * j + 1 : Nat) : Int)⟩ : S87) := by
      apply List.ext_getElem?
      intro j
      by_cases hj : j < n
      · rw [hx j (by omega)]; simp [hj]
      · rw [List.getElem?_eq_none (by omega), List.getElem?_eq_none (by simp; omega)]
    obtain rfl : i = n := by omega
    rw [← e]
  | succ d ih =>
    intro i k x hi hk hl hx
    obtain ⟨k, rfl⟩ : ∃ m, k = m + 1 := ⟨k - 1, by omega⟩
    simp only [laws_markDependS.l0, Option.bind_some]
    rw [if_pos (by omega), if_pos (by omega), w64s (by omega), w64s (by omega), w64s (by omega)]
    have e2 : m0 + 2 * i + 1 + 1 = m0 + 2 * (i + 1) := by omega
    rw [e2]
    refine ih (i + 1) k _ (by omega) (by omega) (by simpa using hl) fun j hj => ?_
    have e : ((i : Int)).toNat = i := by simp
    rw [e, List.getElem?_set]
    by_cases c : i = j
    · subst c
      rw [if_pos rfl, if_pos (by simp; omega)]
      congr 1
      unfold rd_T87
      simp [show i < x.length by omega]
    · rw [if_neg c, List.getElem?_set, if_neg c]; exact hx j (by omega)
theorem mark_anyp (l : List S87) (m0 k : Nat) (hl : l.length ≤ 3000000) (hm : m0 ≤ 10000000) (hk : 3000001 < k) : ∃ r, laws_markDependS.f k l (m0 : Int) = some ((m0 : Int) + 2 * (l.length : Int), r) := by
  have h1 := markDependS_loop l.length m0 (by omega) l.length 0 k l (by omega) (by omega) rfl (by simp)
  rw [show ((m0 + 2 * 0 : Nat) : Int) = m0 from by simp, show ((0 : Nat) : Int) = 0 from rfl, show ((m0 + 2 * l.length : Nat) : Int) = (m0 : Int) + 2 * (l.length : Int) by omega] at h1
  exact ⟨_, h1⟩

theorem heldDependS_loop (n m0 : Nat) (hn : 2 * n + m0 ≤ 4000000000) : ∀ (d i k : Nat), i + d = n → d < k → laws_heldDependS.l0 k ((List.range n).map fun j => (⟨((m0 + 2 * j : Nat) : Int), ((m0 + 2 * j + 1 : Nat) : Int)⟩ : S87)) ((m0 + 2 * i : Nat) : Int) (i : Int) = some ((m0 + 2 * n : Nat) : Int) := by
  intro d
  induction d with
  | zero =>
    intro i k hi hk
    obtain ⟨k, rfl⟩ : ∃ m, k = m + 1 := ⟨k - 1, by omega⟩
    simp only [laws_heldDependS.l0]
    rw [if_neg (by simp; omega)]
    obtain rfl : i = n := by omega
    rfl
  | succ d ih =>
    intro i k hi hk
    obtain ⟨k, rfl⟩ : ∃ m, k = m + 1 := ⟨k - 1, by omega⟩
    simp only [laws_heldDependS.l0]
    rw [if_pos (by simp; omega), if_pos (by omega), rdp_nat _ i (by simp; omega), w64s (by omega), w64s (by omega), w64s (by omega)]
    rw [if_pos (by simp), if_pos (by simp)]
    have e2 : m0 + 2 * i + 1 + 1 = m0 + 2 * (i + 1) := by omega
    rw [e2]
    exact ih (i + 1) k (by omega) (by omega)
theorem mark_heldp (l : List S87) (k : Nat) (hl : l.length ≤ 3000000) (hk : 3000001 < k) : ∃ r, laws_markDependS.f k l 1 = some (1 + 2 * (l.length : Int), r) ∧ laws_heldDependS.f k r 1 = some (1 + 2 * (l.length : Int)) := by
  have h1 := markDependS_loop l.length 1 (by omega) l.length 0 k l (by omega) (by omega) rfl (by simp)
  have h2 := heldDependS_loop l.length 1 (by omega) l.length 0 k (by omega) (by omega)
  rw [show ((1 + 2 * 0 : Nat) : Int) = 1 from rfl, show ((0 : Nat) : Int) = 0 from rfl, show ((1 + 2 * l.length : Nat) : Int) = 1 + 2 * (l.length : Int) by omega] at h1 h2
  exact ⟨_, h1, h2⟩

def shp (l : List S87) (b : Int) : List S87 := l.map fun p => ⟨wrap64 (p.f0 + b), wrap64 (p.f1 + b)⟩
def shift (l : List S87) (b : Int) : List S87 := if (depOk l && inR b (-1000) 1000 && depOk (shp l b)) = true then shp l b else []
theorem shp_len (l : List S87) (b : Int) : (shp l b).length = l.length := by simp [shp]
theorem spec_ShiftDepends_loop (l : List S87) (b : Int) (hn : l.length ≤ 1048576) : ∀ (d i k : Nat) (x : List S87), i + d = l.length → d + 1048600 < k → x = shp (l.take i) b → spec_ShiftDepends.l0 k l b x (i : Int) = some (if depOk (shp l b) = true then shp l b else []) := by
  intro d
  induction d with
  | zero =>
    intro i k x hi hk hx
    obtain ⟨k, rfl⟩ : ∃ m, k = m + 1 := ⟨k - 1, by omega⟩
    simp only [spec_ShiftDepends.l0]
    have e : x = shp l b := by rw [hx, List.take_of_length_le (by omega)]
    rw [if_neg (by omega), e, spec_DependsOk_eq _ k (by rw [shp_len]; exact hn) (by omega)]
    simp only [Option.bind_some]
    by_cases q : depOk (shp l b) = true
    · rw [if_pos q, if_pos q]
    · rw [if_neg q, if_neg q]
  | succ d ih =>
    intro i k x hi hk hx
    obtain ⟨k, rfl⟩ : ∃ m, k = m + 1 := ⟨k - 1, by omega⟩
    simp only [spec_ShiftDepends.l0]
    have hxl : x.length = i := by rw [hx, shp_len, List.length_take]; omega
    rw [if_pos (by omega), if_pos (by omega), if_pos (by omega), w64s (by omega)]
    refine ih (i + 1) k _ (by omega) (by omega) ?_
    rw [hx, List.take_succ_eq_append_getElem (by omega), rdp_nat l i (by omega)]
    simp only [shp, List.map_append, List.map_cons, List.map_nil]
theorem impl_ShiftDepends_loop (l : List S87) (b : Int) (hn : l.length ≤ 1048576) : ∀ (d i k : Nat) (x : List S87), i + d = l.length → d + 1048600 < k → x = shp (l.take i) b → impl_ShiftDepends.l0 k b x l (l.length : Int) (i : Int) = some (if depOk (shp l b) = true then shp l b else []) := by
  intro d
  induction d with
  | zero =>
    intro i k x hi hk hx
    obtain ⟨k, rfl⟩ : ∃ m, k = m + 1 := ⟨k - 1, by omega⟩
    simp only [impl_ShiftDepends.l0]
    have e : x = shp l b := by rw [hx, List.take_of_length_le (by omega)]
    rw [if_neg (by omega), e, impl_DependsOk_eq _ k (by rw [shp_len]; exact hn) (by omega)]
    simp only [Option.bind_some]
    by_cases q : depOk (shp l b) = true
    · rw [if_pos q, if_pos q]
    · rw [if_neg q, if_neg q]
  | succ d ih =>
    intro i k x hi hk hx
    obtain ⟨k, rfl⟩ : ∃ m, k = m + 1 := ⟨k - 1, by omega⟩
    simp only [impl_ShiftDepends.l0]
    have hxl : x.length = i := by rw [hx, shp_len, List.length_take]; omega
    rw [if_pos (by omega), if_pos (by omega), if_pos (by omega), if_pos (by omega), w64s (by omega)]
    refine ih (i + 1) k _ (by omega) (by omega) ?_
    rw [hx, List.take_succ_eq_append_getElem (by omega), rdp_nat l i (by omega)]
    simp only [shp, List.map_append, List.map_cons, List.map_nil]
theorem spec_ShiftDepends_eq (l : List S87) (b : Int) (k : Nat) (hl : l.length ≤ 1048576) (hk : 2200000 < k) : spec_ShiftDepends.f k l b = some (shift l b) := by
  obtain ⟨k, rfl⟩ : ∃ m, k = m + 1 := ⟨k - 1, by omega⟩
  unfold spec_ShiftDepends.f shift
  rw [spec_DependsOk_eq l (k + 1) hl (by omega), spec_l01In_eq]
  simp only [Option.bind_some, spec_ShiftDepends.j0]
  have e := spec_ShiftDepends_loop l b hl l.length 0 k [] (by omega) (by omega) (by simp [shp])
  rw [show ((0 : Nat) : Int) = 0 from rfl] at e
  rw [e]
  by_cases q1 : depOk l = true
  · by_cases q2 : inR b (-1000) 1000 = true
    · rw [if_pos q1, if_neg (by simp [q2]), q1, q2]; rfl
    · simp [q1, q2]
  · simp [q1]
theorem impl_ShiftDepends_eq (l : List S87) (b : Int) (k : Nat) (hl : l.length ≤ 1048576) (hk : 2200000 < k) : impl_ShiftDepends.f k l b = some (shift l b) := by
  obtain ⟨k, rfl⟩ : ∃ m, k = m + 1 := ⟨k - 1, by omega⟩
  unfold impl_ShiftDepends.f shift
  rw [impl_DependsOk_eq l (k + 1) hl (by omega), impl_inside_eq]
  simp only [Option.bind_some, impl_ShiftDepends.j0]
  have e := impl_ShiftDepends_loop l b hl l.length 0 k [] (by omega) (by omega) (by simp [shp])
  rw [show ((0 : Nat) : Int) = 0 from rfl] at e
  rw [e]
  by_cases q1 : depOk l = true
  · by_cases q2 : inR b (-1000) 1000 = true
    · rw [if_pos q1, if_neg (by simp [q2]), q1, q2]; rfl
    · simp [q1, q2]
  · simp [q1]
theorem shift_len (l : List S87) (b : Int) : (shift l b).length ≤ l.length := by
  unfold shift
  split
  · rw [shp_len]; omega
  · simp

theorem FnExactShiftDepends : laws_FnExactShiftDepends.Pure := by
  intro l c hl _ _
  obtain ⟨k, hk⟩ : ∃ k : Nat, 4000000 ≤ k := ⟨_, Nat.le_refl _⟩
  refine ⟨k + 1, ?_⟩
  unfold laws_FnExactShiftDepends.f
  rw [szDependS_eq l 1048576 (by omega) hl]
  simp only [Option.bind_some]
  by_cases q : (l.length : Int) ≤ 1048576
  · have hc := cv_len l
    have hs := shift_len (cv l) c
    rw [if_pos q, if_neg (by omega)]
    obtain ⟨r, m1⟩ := mark_anyp (cv l) 1 (k + 1) (by omega) (by omega) (by omega)
    rw [show ((1 : Nat) : Int) = 1 from rfl] at m1
    obtain ⟨r2, m2, m3⟩ := mark_heldp (shift (cv l) c) k (by omega) (by omega)
    simp only [toDependS_eq l (k + 1) (by omega) (by omega), spec_ShiftDepends_eq (cv l) c (k + 1) (by omega) (by omega), impl_ShiftDepends_eq (cv l) c (k + 1) (by omega) (by omega), eqDependS_self (cv l) (k + 1) (by omega) (by omega), eqDependS_self (shift (cv l) c) (k + 1) (by omega) (by omega), m1, Option.bind_some, if_true]
    rw [if_neg (by omega)]
    simp only [laws_FnExactShiftDepends.j0, m2, m3, Option.bind_some, toDependS_eq l k (by omega) (by omega), impl_ShiftDepends_eq (cv l) c k (by omega) (by omega), eqDependS_self (shift (cv l) c) k (by omega) (by omega), if_true]
    rw [if_neg (by simp), if_neg (by omega), if_neg (by omega)]
  · rw [if_neg q, if_pos (by omega)]

end Go.Proofs.Ytohccnaellachab.Pure
