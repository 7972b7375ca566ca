/- What is proved: the statement FnExactSuccessorsOf, in its pure form, over numbers and lists: the program's and the reference's SuccessorsOf agree for all arguments, the argument stays, and the result is the caller's own (no conditions). -/
import Derived.Test.YtohccnaellachabX19
import Derived.Test.YtohccnaellachabModel
set_option linter.unusedVariables false
set_option linter.unusedSimpArgs false
namespace Go.Proofs.Ytohccnaellachab.Pure
open Go.RowKit Go.Proofs.Ytohccnaellachab.X Go.Proofs.Ytohccnaellachab.M Go.Proofs.YtohccnaellachabW.PrintWords Go.Proofs.YtohccnaellachabW.PrintLast
theorem rd_nat (l : List Int) (i : Nat) (h : i < l.length) : rd l (i : Int) = l[i] := by unfold rd; simp [h]
theorem drop_rd (l : List Int) (i : Nat) (h : i < l.length) : l.drop i = rd l (i : Int) :: l.drop (i + 1) := by
  rw [rd_nat l i h]; exact List.drop_eq_getElem_cons h
theorem w64s {i : Nat} (h : i ≤ 9223372036854775806) : wrap64 ((i : Int) + 1) = ((i + 1 : Nat) : Int) := by rw [wrap64_id (by omega) (by omega)]; omega
theorem w64p {i : Nat} (h : i ≤ 9223372036854775806) (h0 : 0 < i) : wrap64 ((i : Int) - 1) = ((i - 1 : Nat) : Int) := by rw [wrap64_id (by omega) (by omega)]; omega

theorem eqIntS_loop (a b : List Int) (hl : a.length = b.length) (hn : a.length ≤ 9223372036854775806) : ∀ (d i k : Nat), i + d = a.length → d < k → laws_eqIntS.l0 k a b (i : Int) = some (decide (a.drop i = b.drop i)) := by
  intro d
  induction d with
  | zero =>
    intro i k hi hk
    obtain ⟨k, rfl⟩ : ∃ m, k = m + 1 := ⟨k - 1, by omega⟩
    simp only [laws_eqIntS.l0]
    rw [if_neg (by omega), List.drop_eq_nil_of_le (by omega), List.drop_eq_nil_of_le (by omega)]
    simp
  | succ d ih =>
    intro i k hi hk
    obtain ⟨k, rfl⟩ : ∃ m, k = m + 1 := ⟨k - 1, by omega⟩
    simp only [laws_eqIntS.l0]
    rw [if_pos (by omega), if_pos (by omega), if_pos (by omega), drop_rd a i (by omega), drop_rd b i (by omega)]
    by_cases c : rd a (i : Int) = rd b (i : Int)
    · rw [if_pos c, w64s (by omega), ih (i + 1) k (by omega) (by omega)]
      simp [c]
    · rw [if_neg c]; simp [c]
theorem eqIntS_eq (a b : List Int) (k : Nat) (ha : a.length ≤ 1048576) (hk : 1048577 < k) : laws_eqIntS.f k a b = some (decide (a = b)) := by
  unfold laws_eqIntS.f
  by_cases c : (a.length : Int) = (b.length : Int)
  · rw [if_pos c]
    have h := eqIntS_loop a b (by omega) (by omega) a.length 0 k (by omega) (by omega)
    simpa using h
  · rw [if_neg c]
    have : a ≠ b := fun e => c (by rw [e])
    simp [this]
theorem eqIntS_self (a : List Int) (k : Nat) (ha : a.length ≤ 1048576) (hk : 1048577 < k) : laws_eqIntS.f k a a = some true := by rw [eqIntS_eq a a k ha hk]; simp

theorem markIntS_loop (n m0 : Nat) (hn : n + m0 ≤ 4000000000) : ∀ (d i k : Nat) (x : List Int), i + d = n → d < k → x.length = n → (∀ j, j < i → x[j]? = some ((m0 + j : Nat) : Int)) → laws_markIntS.l0 k x ((m0 + i : Nat) : Int) (i : Int) = some (((m0 + n : Nat) : Int), (List.range n).map fun j => ((m0 + j : Nat) : Int)) := by
  intro d
  induction d with
  | zero =>
    intro i k x hi hk hl hx
    obtain ⟨k, rfl⟩ : ∃ m, k = m + 1 := ⟨k - 1, by omega⟩
    simp only [laws_markIntS.l0]
    rw [if_neg (by omega)]
    have e : x = (List.range n).map fun j => ((m0 + j : Nat) : Int) := by
      apply List.ext_getElem?
      intro j
      by_cases hj : j < n
      · rw [hx j (by omega)]; simp [hj]
      · rw [List.getElem?_eq_none (by omega), List.getElem?_eq_none (by simp; omega)]
    obtain rfl : i = n := by omega
    rw [← e]
  | succ d ih =>
    intro i k x hi hk hl hx
    obtain ⟨k, rfl⟩ : ∃ m, k = m + 1 := ⟨k - 1, by omega⟩
    simp only [laws_markIntS.l0]
    rw [if_pos (by omega), if_pos (by omega), w64s (by omega), w64s (by omega)]
    have e2 : m0 + i + 1 = m0 + (i + 1) := by omega
    rw [e2]
    refine ih (i + 1) k _ (by omega) (by omega) (by simpa using hl) fun j hj => ?_
    have e : ((i : Int)).toNat = i := by simp
    rw [e, List.getElem?_set]
    by_cases c : i = j
    · subst c; rw [if_pos rfl, if_pos (by omega)]
    · rw [if_neg c]; exact hx j (by omega)
theorem markIntS_eq (l : List Int) (m0 k : Nat) (hl : l.length + m0 ≤ 4000000000) (hk : l.length < k) : laws_markIntS.f k l (m0 : Int) = some (((m0 + l.length : Nat) : Int), (List.range l.length).map fun j => ((m0 + j : Nat) : Int)) := by
  unfold laws_markIntS.f
  have h := markIntS_loop l.length m0 (by omega) l.length 0 k l (by omega) (by omega) rfl (by simp)
  simpa using h

theorem heldIntS_loop (n m0 : Nat) (hn : n + m0 ≤ 4000000000) : ∀ (d i k : Nat), i + d = n → d < k → laws_heldIntS.l0 k ((List.range n).map fun j => ((m0 + j : Nat) : Int)) ((m0 + i : Nat) : Int) (i : Int) = some ((m0 + n : Nat) : Int) := by
  intro d
  induction d with
  | zero =>
    intro i k hi hk
    obtain ⟨k, rfl⟩ : ∃ m, k = m + 1 := ⟨k - 1, by omega⟩
    simp only [laws_heldIntS.l0]
    rw [if_neg (by simp; omega)]
    obtain rfl : i = n := by omega
    rfl
  | succ d ih =>
    intro i k hi hk
    obtain ⟨k, rfl⟩ : ∃ m, k = m + 1 := ⟨k - 1, by omega⟩
    simp only [laws_heldIntS.l0]
    rw [if_pos (by simp; omega), if_pos (by omega), if_pos (by rw [rd_nat _ _ (by simp; omega)]; simp), w64s (by omega), w64s (by omega)]
    have e2 : m0 + i + 1 = m0 + (i + 1) := by omega
    rw [e2]
    exact ih (i + 1) k (by omega) (by omega)
theorem heldIntS_eq (n m0 k : Nat) (hl : n + m0 ≤ 4000000000) (hk : n < k) : laws_heldIntS.f k ((List.range n).map fun j => ((m0 + j : Nat) : Int)) (m0 : Int) = some ((m0 + n : Nat) : Int) := by
  unfold laws_heldIntS.f
  have h := heldIntS_loop n m0 (by omega) n 0 k (by omega) (by omega)
  simpa using h

theorem mark_held (l : List Int) (k : Nat) (hl : l.length ≤ 1048576) (hk : 1048577 < k) : ∃ r, laws_markIntS.f k l 1 = some (1 + (l.length : Int), r) ∧ laws_heldIntS.f k r 1 = some (1 + (l.length : Int)) := by
  refine ⟨_, ?_, heldIntS_eq l.length 1 k (by omega) (by omega) |>.trans ?_⟩
  · have h := markIntS_eq l 1 k (by omega) (by omega)
    rw [show ((1 : Nat) : Int) = 1 from rfl] at h
    rw [h]
    simp
  · simp
theorem mark_any (l : List Int) (m k : Nat) (hl : l.length ≤ 1048576) (hm : m ≤ 100000000) (hk : 1048577 < k) : ∃ r, laws_markIntS.f k l (m : Int) = some (((m + l.length : Nat) : Int), r) := ⟨_, markIntS_eq l m k (by omega) (by omega)⟩

theorem szDependS_eq (l : List S89) (a : Int) (h : 0 ≤ a ∧ a ≤ 1048576) (hl : l.length ≤ maxLen) : laws_szDependS.f l a = some (if (l.length : Int) ≤ a then a - l.length else -1) := by
  unfold maxLen at hl
  unfold laws_szDependS.f
  rw [wrap64_id (by omega) (by omega)]
  by_cases c : (l.length : Int) ≤ a
  · rw [if_neg (by omega), if_pos c]
  · rw [if_pos (by omega), if_neg c]
/-- a law's list as the program's -/
def cv (l : List S89) : List S87 := l.map fun y => ⟨y.f0, y.f1⟩
theorem cv_len (l : List S89) : (cv l).length = l.length := by simp [cv]
theorem toDependS_loop (x0 : List S89) (hn : x0.length ≤ 9223372036854775806) : ∀ (d i k : Nat) (x3 : List S87), i + d = x0.length → d < k → x3.length = x0.length → (∀ j, j < i → x3[j]? = (cv x0)[j]?) → laws_toDependS.l0 k x0 x3 (i : Int) = some (cv x0) := by
  intro d
  induction d with
  | zero =>
    intro i k x3 hi hk hl hx
    obtain ⟨k, rfl⟩ : ∃ m, k = m + 1 := ⟨k - 1, by omega⟩
    simp only [laws_toDependS.l0]
    rw [if_neg (by omega)]
    congr 1
    apply List.ext_getElem?
    intro j
    by_cases hj : j < x0.length
    · exact hx j (by omega)
    · rw [List.getElem?_eq_none (by omega), List.getElem?_eq_none (by rw [cv_len]; omega)]
  | succ d ih =>
    intro i k x3 hi hk hl hx
    obtain ⟨k, rfl⟩ : ∃ m, k = m + 1 := ⟨k - 1, by omega⟩
    simp only [laws_toDependS.l0, laws_toDepend.f, Option.bind_some]
    rw [if_pos (by omega), if_pos (by omega), if_pos (by omega), w64s (by omega)]
    refine ih (i + 1) k _ (by omega) (by omega) (by simpa using hl) fun j hj => ?_
    have e : ((i : Int)).toNat = i := by simp
    rw [e, List.getElem?_set]
    by_cases c : i = j
    · subst c
      rw [if_pos rfl, if_pos (by omega)]
      unfold rd_T89 cv
      simp [show i < x0.length by omega]
    · rw [if_neg c]; exact hx j (by omega)
theorem toDependS_eq (l : List S89) (k : Nat) (hl : l.length ≤ 1048576) (hk : 1048577 < k) : laws_toDependS.f k l = some (cv l) := by
  unfold laws_toDependS.f
  rw [if_pos (by omega), if_pos (by simp; omega)]
  exact toDependS_loop l (by omega) l.length 0 k _ (by omega) (by omega) (by simp) (by simp)

theorem rdp_nat (l : List S87) (i : Nat) (h : i < l.length) : rd_T87 l (i : Int) = l[i] := by unfold rd_T87; simp [h]
theorem drop_rdp (l : List S87) (i : Nat) (h : i < l.length) : l.drop i = rd_T87 l (i : Int) :: l.drop (i + 1) := by
  rw [rdp_nat l i h]; exact List.drop_eq_getElem_cons h
/-- equal lists of pairs -/
def samep : List S87 → List S87 → Bool
  | [], [] => true
  | x :: a, y :: b => decide (x.f0 = y.f0) && (decide (x.f1 = y.f1) && samep a b)
  | _, _ => false
theorem samep_iff : ∀ a b : List S87, samep a b = true ↔ a = b
  | [], [] => by simp [samep]
  | [], y :: b => by simp [samep]
  | x :: a, [] => by simp [samep]
  | x :: a, y :: b => by
    have := samep_iff a b
    cases x; cases y
    simp [samep, this, and_assoc]
theorem eqDependS_loop (a b : List S87) (hl : a.length = b.length) (hn : a.length ≤ 9223372036854775806) : ∀ (d i k : Nat), i + d = a.length → d < k → laws_eqDependS.l0 k a b (i : Int) = some (samep (a.drop i) (b.drop i)) := by
  intro d
  induction d with
  | zero =>
    intro i k hi hk
    obtain ⟨k, rfl⟩ : ∃ m, k = m + 1 := ⟨k - 1, by omega⟩
    simp only [laws_eqDependS.l0]
    rw [if_neg (by omega), List.drop_eq_nil_of_le (by omega), List.drop_eq_nil_of_le (by omega)]
    simp [samep]
  | succ d ih =>
    intro i k hi hk
    obtain ⟨k, rfl⟩ : ∃ m, k = m + 1 := ⟨k - 1, by omega⟩
    simp only [laws_eqDependS.l0, laws_eqDepend.f]
    rw [if_pos (by omega), if_pos (by omega), if_pos (by omega), drop_rdp a i (by omega), drop_rdp b i (by omega)]
    simp only [samep]
    by_cases c : (rd_T87 a (i : Int)).f0 = (rd_T87 b (i : Int)).f0
    · rw [if_pos c]
      by_cases c2 : (rd_T87 a (i : Int)).f1 = (rd_T87 b (i : Int)).f1
      · rw [if_pos c2]
        simp only [Option.bind_some, if_true]
        rw [w64s (by omega), ih (i + 1) k (by omega) (by omega)]
        simp [c, c2]
      · rw [if_neg c2]; simp [c, c2]
    · rw [if_neg c]; simp [c]
theorem eqDependS_eq (a b : List S87) (k : Nat) (ha : a.length ≤ 1048576) (hk : 1048577 < k) : laws_eqDependS.f k a b = some (samep a b) := by
  unfold laws_eqDependS.f
  by_cases c : (a.length : Int) = (b.length : Int)
  · rw [if_pos c]
    have h := eqDependS_loop a b (by omega) (by omega) a.length 0 k (by omega) (by omega)
    rw [show ((0 : Nat) : Int) = 0 from rfl] at h
    rw [h]
    simp only [List.drop_zero]
  · rw [if_neg c]
    have : ¬ samep a b = true := fun e => c (by rw [(samep_iff a b).1 e])
    simp [this]
theorem eqDependS_self (a : List S87) (k : Nat) (ha : a.length ≤ 1048576) (hk : 1048577 < k) : laws_eqDependS.f k a a = some true := by rw [eqDependS_eq a a k ha hk, (samep_iff a a).2 rfl]

theorem markDependS_loop (n m0 : Nat) (hn : 2 * n + m0 ≤ 4000000000) : ∀ (d i k : Nat) (x : List S87), i + d = n → d < k → x.length = n → (∀ j, j < i → x[j]? = some ⟨((m0 + 2 * j : Nat) : Int), ((m0 + 2 * j + 1 : Nat) : Int)⟩) → laws_markDependS.l0 k x ((m0 + 2 * i : Nat) : Int) (i : Int) = some (((m0 + 2 * n : Nat) : Int), (List.range n).map fun j => (⟨((m0 + 2 * j : Nat) : Int), ((m0 + 2 * j + 1 : Nat) : Int)⟩ : S87)) := by
  intro d
  induction d with
  | zero =>
    intro i k x hi hk hl hx
    obtain ⟨k, rfl⟩ : ∃ m, k = m + 1 := ⟨k - 1, by omega⟩
    simp only [laws_markDependS.l0]
    rw [if_neg (by omega)]
    have e : x = (List.range n).map fun j => (⟨((m0 + 2 * j : Nat) : Int), ((m0 + 2 * j + 1 : Nat) : Int)⟩ : S87) := by
      apply List.ext_getElem?
      intro j
      by_cases hj : j < n
      · rw [hx j (by omega)]; simp [hj]
      · rw [List.getElem?_eq_none (by omega), List.getElem?_eq_none (by simp; omega)]
    obtain rfl : i = n := by omega
    rw [← e]
  | succ d ih =>
    intro i k x hi hk hl hx
    obtain ⟨k, rfl⟩ : ∃ m, k = m + 1 := ⟨k - 1, by omega⟩
    simp only [laws_markDependS.l0, Option.bind_some]
    rw [if_pos (by omega), if_pos (by omega), w64s (by omega), w64s (by omega), w64s (by omega)]
    have e2 : m0 + 2 * i + 1 + 1 = m0 + 2 * (i + 1) := by omega
    rw [e2]
    refine ih (i + 1) k _ (by omega) (by omega) (by simpa using hl) fun j hj => ?_
    have e : ((i : Int)).toNat = i := by simp
    rw [e, List.getElem?_set]
    by_cases c : i = j
    · subst c
      rw [if_pos rfl, if_pos (by simp; omega)]
      congr 1
      unfold rd_T87
      simp [show i < x.length by omega]
    · rw [if_neg c, List.getElem?_set, if_neg c]; exact hx j (by omega)
theorem mark_anyp (l : List S87) (m0 k : Nat) (hl : l.length ≤ 3000000) (hm : m0 ≤ 10000000) (hk : 3000001 < k) : ∃ r, laws_markDependS.f k l (m0 : Int) = some ((m0 : Int) + 2 * (l.length : Int), r) := by
  have h1 := markDependS_loop l.length m0 (by omega) l.length 0 k l (by omega) (by omega) rfl (by simp)
  rw [show ((m0 + 2 * 0 : Nat) : Int) = m0 from by simp, show ((0 : Nat) : Int) = 0 from rfl, show ((m0 + 2 * l.length : Nat) : Int) = (m0 : Int) + 2 * (l.length : Int) by omega] at h1
  exact ⟨_, h1⟩

def succs (l : List S87) (c : Int) : List Int := (l.filter fun p => decide (p.f0 = c)).map fun p => p.f1
theorem succs_len (l : List S87) (c : Int) : (succs l c).length ≤ l.length := by unfold succs; rw [List.length_map]; exact List.length_filter_le _ _
theorem succs_cons (p : S87) (l : List S87) (c : Int) : succs (p :: l) c = if p.f0 = c then p.f1 :: succs l c else succs l c := by
  unfold succs
  by_cases q : p.f0 = c <;> simp [List.filter_cons, q]
theorem spec_SuccessorsOf_loop (l : List S87) (c : Int) (hn : l.length ≤ 1048576) : ∀ (d i k : Nat) (x : List Int), i + d = l.length → d < k → x.length ≤ i → spec_SuccessorsOf.l0 k l c x (i : Int) = some (x ++ succs (l.drop i) c) := by
  intro d
  induction d with
  | zero =>
    intro i k x hi hk hx
    obtain ⟨k, rfl⟩ : ∃ m, k = m + 1 := ⟨k - 1, by omega⟩
    simp only [spec_SuccessorsOf.l0]
    rw [if_neg (by omega), List.drop_eq_nil_of_le (by omega)]
    simp [succs]
  | succ d ih =>
    intro i k x hi hk hx
    obtain ⟨k, rfl⟩ : ∃ m, k = m + 1 := ⟨k - 1, by omega⟩
    simp only [spec_SuccessorsOf.l0]
    rw [if_pos (by omega), if_pos (by omega), drop_rdp l i (by omega), succs_cons]
    by_cases q : (rd_T87 l (i : Int)).f0 = c
    · rw [if_pos q, if_pos q, if_pos (by omega), w64s (by omega), ih (i + 1) k _ (by omega) (by omega) (by simp; omega)]
      simp
    · rw [if_neg q, if_neg q, w64s (by omega), ih (i + 1) k _ (by omega) (by omega) (by omega)]
theorem impl_SuccessorsOf_loop (l : List S87) (c : Int) (hn : l.length ≤ 1048576) : ∀ (d i k : Nat) (x : List Int), i + d = l.length → d < k → x.length ≤ i → impl_SuccessorsOf.l0 k c x l (l.length : Int) (i : Int) = some (x ++ succs (l.drop i) c) := by
  intro d
  induction d with
  | zero =>
    intro i k x hi hk hx
    obtain ⟨k, rfl⟩ : ∃ m, k = m + 1 := ⟨k - 1, by omega⟩
    simp only [impl_SuccessorsOf.l0]
    rw [if_neg (by omega), List.drop_eq_nil_of_le (by omega)]
    simp [succs]
  | succ d ih =>
    intro i k x hi hk hx
    obtain ⟨k, rfl⟩ : ∃ m, k = m + 1 := ⟨k - 1, by omega⟩
    simp only [impl_SuccessorsOf.l0]
    rw [if_pos (by omega), if_pos (by omega), if_pos (by omega), drop_rdp l i (by omega), succs_cons]
    by_cases q : (rd_T87 l (i : Int)).f0 = c
    · rw [if_pos q, if_pos q, if_pos (by omega), w64s (by omega), ih (i + 1) k _ (by omega) (by omega) (by simp; omega)]
      simp
    · rw [if_neg q, if_neg q, w64s (by omega), ih (i + 1) k _ (by omega) (by omega) (by omega)]
theorem spec_SuccessorsOf_eq (l : List S87) (c : Int) (k : Nat) (hl : l.length ≤ 1048576) (hk : 1048577 < k) : spec_SuccessorsOf.f k l c = some (succs l c) := by
  unfold spec_SuccessorsOf.f
  have e := spec_SuccessorsOf_loop l c hl l.length 0 k [] (by omega) (by omega) (by simp)
  simpa using e
theorem impl_SuccessorsOf_eq (l : List S87) (c : Int) (k : Nat) (hl : l.length ≤ 1048576) (hk : 1048577 < k) : impl_SuccessorsOf.f k l c = some (succs l c) := by
  unfold impl_SuccessorsOf.f
  have e := impl_SuccessorsOf_loop l c hl l.length 0 k [] (by omega) (by omega) (by simp)
  simpa using e

theorem FnExactSuccessorsOf : laws_FnExactSuccessorsOf.Pure := by
  intro l c hl _ _
  obtain ⟨k, hk⟩ : ∃ k : Nat, 4000000 ≤ k := ⟨_, Nat.le_refl _⟩
  refine ⟨k + 1, ?_⟩
  unfold laws_FnExactSuccessorsOf.f
  rw [szDependS_eq l 1048576 (by omega) hl]
  simp only [Option.bind_some]
  by_cases q : (l.length : Int) ≤ 1048576
  · have hc := cv_len l
    have hs := succs_len (cv l) c
    rw [if_pos q, if_neg (by omega)]
    obtain ⟨r, m1⟩ := mark_anyp (cv l) 1 (k + 1) (by omega) (by omega) (by omega)
    rw [show ((1 : Nat) : Int) = 1 from rfl] at m1
    obtain ⟨r2, m2, m3⟩ := mark_held (succs (cv l) c) k (by omega) (by omega)
    simp only [toDependS_eq l (k + 1) (by omega) (by omega), spec_SuccessorsOf_eq (cv l) c (k + 1) (by omega) (by omega), impl_SuccessorsOf_eq (cv l) c (k + 1) (by omega) (by omega), eqDependS_self (cv l) (k + 1) (by omega) (by omega), eqIntS_self (succs (cv l) c) (k + 1) (by omega) (by omega), m1, Option.bind_some, if_true]
    rw [if_neg (by omega)]
    simp only [laws_FnExactSuccessorsOf.j0, m2, m3, Option.bind_some, toDependS_eq l k (by omega) (by omega), impl_SuccessorsOf_eq (cv l) c k (by omega) (by omega), eqIntS_self (succs (cv l) c) k (by omega) (by omega), if_true]
    rw [if_neg (by simp), if_neg (by omega), if_neg (by omega)]
  · rw [if_neg q, if_pos (by omega)]

end Go.Proofs.Ytohccnaellachab.Pure
