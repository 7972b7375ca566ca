/- What is proved: the statement FnExactMergeDepends, in its pure form, over numbers and lists: the program's and the reference's MergeDepends agree for all arguments, the arguments stay, and the result is the caller's own (no conditions). -/
import Derived.Test.YtmfkgnfjjfnfmaaXM7
import Derived.Test.YtmfkgnfjjfnfmaaModel
set_option linter.unusedVariables false
set_option linter.unusedSimpArgs false
namespace Go.Proofs.Ytmfkgnfjjfnfmaa.Pure
open Go.RowKit Go.Proofs.Ytmfkgnfjjfnfmaa.XM Go.Proofs.Ytmfkgnfjjfnfmaa.M Go.Proofs.YtmfkgnfjjfnfmaaW.PrintWords Go.Proofs.YtmfkgnfjjfnfmaaW.PrintLast
theorem rd_nat (l : List Int) (i : Nat) (h : i < l.length) : rd l (i : Int) = l[i] := by unfold rd; simp [h]
theorem drop_rd (l : List Int) (i : Nat) (h : i < l.length) : l.drop i = rd l (i : Int) :: l.drop (i + 1) := by
  rw [rd_nat l i h]; exact List.drop_eq_getElem_cons h
theorem w64s {i : Nat} (h : i ≤ 9223372036854775806) : wrap64 ((i : Int) + 1) = ((i + 1 : Nat) : Int) := by rw [wrap64_id (by omega) (by omega)]; omega
theorem w64p {i : Nat} (h : i ≤ 9223372036854775806) (h0 : 0 < i) : wrap64 ((i : Int) - 1) = ((i - 1 : Nat) : Int) := by rw [wrap64_id (by omega) (by omega)]; omega

theorem impl_inside_eq (a b c : Int) : impl_inside.f a b c = some (inR a b c) := by
  unfold impl_inside.f inR
  by_cases h : b ≤ a <;> simp [h]

theorem spec_l01In_eq (a b c : Int) : spec_l01In.f a b c = some (inR a b c) := by
  unfold spec_l01In.f inR
  by_cases h : b ≤ a <;> simp [h]

theorem szDependS_eq (l : List S104) (a : Int) (h : 0 ≤ a ∧ a ≤ 1048576) (hl : l.length ≤ maxLen) : laws_szDependS.f l a = some (if (l.length : Int) ≤ a then a - l.length else -1) := by
  unfold maxLen at hl
  unfold laws_szDependS.f
  rw [wrap64_id (by omega) (by omega)]
  by_cases c : (l.length : Int) ≤ a
  · rw [if_neg (by omega), if_pos c]
  · rw [if_pos (by omega), if_neg c]
/-- a law's list as the program's -/
def cv (l : List S104) : List S83 := l.map fun y => ⟨y.f0, y.f1⟩
theorem cv_len (l : List S104) : (cv l).length = l.length := by simp [cv]
theorem toDependS_loop (x0 : List S104) (hn : x0.length ≤ 9223372036854775806) : ∀ (d i k : Nat) (x3 : List S83), i + d = x0.length → d < k → x3.length = x0.length → (∀ j, j < i → x3[j]? = (cv x0)[j]?) → laws_toDependS.l0 k x0 x3 (i : Int) = some (cv x0) := by
  intro d
  induction d with
  | zero =>
    intro i k x3 hi hk hl hx
    obtain ⟨k, rfl⟩ : ∃ m, k = m + 1 := ⟨k - 1, by omega⟩
    simp only [laws_toDependS.l0]
    rw [if_neg (by omega)]
    congr 1
    apply List.ext_getElem?
    intro j
    by_cases hj : j < x0.length
    · exact hx j (by omega)
    · rw [List.getElem?_eq_none (by omega), List.getElem?_eq_none (by rw [cv_len]; omega)]
  | succ d ih =>
    intro i k x3 hi hk hl hx
    obtain ⟨k, rfl⟩ : ∃ m, k = m + 1 := ⟨k - 1, by omega⟩
    simp only [laws_toDependS.l0, laws_toDepend.f, Option.bind_some]
    rw [if_pos (by omega), if_pos (by omega), if_pos (by omega), w64s (by omega)]
    refine ih (i + 1) k _ (by omega) (by omega) (by simpa using hl) fun j hj => ?_
    have e : ((i : Int)).toNat = i := by simp
    rw [e, List.getElem?_set]
    by_cases c : i = j
    · subst c
      rw [if_pos rfl, if_pos (by omega)]
      unfold rd_T104 cv
      simp [show i < x0.length by omega]
    · rw [if_neg c]; exact hx j (by omega)
theorem toDependS_eq (l : List S104) (k : Nat) (hl : l.length ≤ 1048576) (hk : 1048577 < k) : laws_toDependS.f k l = some (cv l) := by
  unfold laws_toDependS.f
  rw [if_pos (by omega), if_pos (by simp; omega)]
  exact toDependS_loop l (by omega) l.length 0 k _ (by omega) (by omega) (by simp) (by simp)

theorem rdp_nat (l : List S83) (i : Nat) (h : i < l.length) : rd_T83 l (i : Int) = l[i] := by unfold rd_T83; simp [h]
theorem drop_rdp (l : List S83) (i : Nat) (h : i < l.length) : l.drop i = rd_T83 l (i : Int) :: l.drop (i + 1) := by
  rw [rdp_nat l i h]; exact List.drop_eq_getElem_cons h
/-- equal lists of pairs -/
def samep : List S83 → List S83 → Bool
  | [], [] => true
  | x :: a, y :: b => decide (x.f0 = y.f0) && (decide (x.f1 = y.f1) && samep a b)
  | _, _ => false
theorem samep_iff : ∀ a b : List S83, samep a b = true ↔ a = b
  | [], [] => by simp [samep]
  | [], y :: b => by simp [samep]
  | x :: a, [] => by simp [samep]
  | x :: a, y :: b => by
    have := samep_iff a b
    cases x; cases y
    simp [samep, this, and_assoc]
theorem eqDependS_loop (a b : List S83) (hl : a.length = b.length) (hn : a.length ≤ 9223372036854775806) : ∀ (d i k : Nat), i + d = a.length → d < k → laws_eqDependS.l0 k a b (i : Int) = some (samep (a.drop i) (b.drop i)) := by
  intro d
  induction d with
  | zero =>
    intro i k hi hk
    obtain ⟨k, rfl⟩ : ∃ m, k = m + 1 := ⟨k - 1, by omega⟩
    simp only [laws_eqDependS.l0]
    rw [if_neg (by omega), List.drop_eq_nil_of_le (by omega), List.drop_eq_nil_of_le (by omega)]
    simp [samep]
  | succ d ih =>
    intro i k hi hk
    obtain ⟨k, rfl⟩ : ∃ m, k = m + 1 := ⟨k - 1, by omega⟩
    simp only [laws_eqDependS.l0, laws_eqDepend.f]
    rw [if_pos (by omega), if_pos (by omega), if_pos (by omega), drop_rdp a i (by omega), drop_rdp b i (by omega)]
    simp only [samep]
    by_cases c : (rd_T83 a (i : Int)).f0 = (rd_T83 b (i : Int)).f0
    · rw [if_pos c]
      by_cases c2 : (rd_T83 a (i : Int)).f1 = (rd_T83 b (i : Int)).f1
      · rw [if_pos c2]
        simp only [Option.bind_some, if_true]
        rw [w64s (by omega), ih (i + 1) k (by omega) (by omega)]
        simp [c, c2]
      · rw [if_neg c2]; simp [c, c2]
    · rw [if_neg c]; simp [c]
theorem eqDependS_eq (a b : List S83) (k : Nat) (ha : a.length ≤ 1048576) (hk : 1048577 < k) : laws_eqDependS.f k a b = some (samep a b) := by
  unfold laws_eqDependS.f
  by_cases c : (a.length : Int) = (b.length : Int)
  · rw [if_pos c]
    have h := eqDependS_loop a b (by omega) (by omega) a.length 0 k (by omega) (by omega)
    rw [show ((0 : Nat) : Int) = 0 from rfl] at h
    rw [h]
    simp only [List.drop_zero]
  · rw [if_neg c]
    have : ¬ samep a b = true := fun e => c (by rw [(samep_iff a b).1 e])
    simp [this]
theorem eqDependS_self (a : List S83) (k : Nat) (ha : a.length ≤ 1048576) (hk : 1048577 < k) : laws_eqDependS.f k a a = some true := by rw [eqDependS_eq a a k ha hk, (samep_iff a a).2 rfl]

def ltp (p q : S83) : Bool := decide (p.f0 < q.f0) || (decide (p.f0 = q.f0) && decide (p.f1 < q.f1))
def inp (p : S83) : Bool := inR p.f0 0 127 && inR p.f1 0 127
def depFrom : Option S83 → List S83 → Bool
  | _, [] => true
  | none, c :: r => inp c && depFrom (some c) r
  | some q, c :: r => inp c && (ltp q c && depFrom (some c) r)
def depOk (l : List S83) : Bool := depFrom none l
theorem spec_DependsOk_loop (l : List S83) (hn : l.length ≤ 9223372036854775806) : ∀ (d i k : Nat), i + d = l.length → d < k → spec_DependsOk.l0 k l (i : Int) = some (depFrom (if i = 0 then none else some (rd_T83 l ((i - 1 : Nat) : Int))) (l.drop i)) := by
  intro d
  induction d with
  | zero =>
    intro i k hi hk
    obtain ⟨k, rfl⟩ : ∃ m, k = m + 1 := ⟨k - 1, by omega⟩
    simp only [spec_DependsOk.l0]
    rw [if_neg (by omega), List.drop_eq_nil_of_le (by omega)]
    simp [depFrom]
  | succ d ih =>
    intro i k hi hk
    obtain ⟨k, rfl⟩ : ∃ m, k = m + 1 := ⟨k - 1, by omega⟩
    simp only [spec_DependsOk.l0, spec_l01In_eq, Option.bind_some]
    rw [if_pos (by omega), if_pos (by omega), drop_rdp l i (by omega)]
    have e := ih (i + 1) k (by omega) (by omega)
    rw [if_neg (by omega), show i + 1 - 1 = i from by omega] at e
    by_cases c : inR (rd_T83 l (i : Int)).f0 0 127 = true
    · rw [if_pos c]
      by_cases c2 : inR (rd_T83 l (i : Int)).f1 0 127 = true
      · rw [if_pos c2]
        by_cases z : i = 0
        · subst z
          rw [if_neg (by simp), w64s (by omega), e, if_pos rfl]
          simp only [depFrom, inp, c, c2, Bool.true_and, Bool.and_self]
        · rw [if_pos (by omega), w64p (by omega) (by omega), if_pos (by omega), if_pos (by omega), if_neg z]
          simp only [depFrom, inp, c, c2, Bool.true_and]
          have el : spec_l08Less.f (rd_T83 l ((i - 1 : Nat) : Int)).f0 (rd_T83 l ((i - 1 : Nat) : Int)).f1 (rd_T83 l (i : Int)).f0 (rd_T83 l (i : Int)).f1 = some (ltp (rd_T83 l ((i - 1 : Nat) : Int)) (rd_T83 l (i : Int))) := by
            unfold spec_l08Less.f ltp
            by_cases q : (rd_T83 l ((i - 1 : Nat) : Int)).f0 < (rd_T83 l (i : Int)).f0
            · rw [if_pos q]; simp [q]
            · rw [if_neg q]
              by_cases q2 : (rd_T83 l ((i - 1 : Nat) : Int)).f0 = (rd_T83 l (i : Int)).f0
              · rw [if_pos q2]; simp [q2]
              · rw [if_neg q2]; simp [q, q2]
          rw [el]
          simp only [Option.bind_some]
          by_cases q : ltp (rd_T83 l ((i - 1 : Nat) : Int)) (rd_T83 l (i : Int)) = true
          · rw [if_pos q, w64s (by omega), e, q]; simp
          · rw [if_neg q]; simp [q]
      · rw [if_neg c2]
        by_cases z : i = 0 <;> simp [z, depFrom, inp, c2]
        · subst z; simp at c2; simp [c2]
    · rw [if_neg c]
      by_cases z : i = 0 <;> simp [z, depFrom, inp, c]
      · subst z; simp at c; simp [c]
theorem spec_DependsOk_eq (l : List S83) (k : Nat) (hl : l.length ≤ 1048576) (hk : 1048577 < k) : spec_DependsOk.f k l = some (depOk l) := by
  unfold spec_DependsOk.f depOk
  have e := spec_DependsOk_loop l (by omega) l.length 0 k (by omega) (by omega)
  simpa using e
theorem compare_eq (p q : S83) (hp : inp p = true) (hq : inp q = true) : ∃ r, impl_compareDepends.f p.f0 p.f1 q.f0 q.f1 = some r ∧ (0 ≤ r ↔ ltp p q = false) ∧ (r < 0 ↔ ltp p q = true) ∧ (r = 0 ↔ p = q) := by
  unfold inp at hp hq
  rw [Bool.and_eq_true, inR_iff, inR_iff] at hp hq
  cases p; cases q
  simp only at hp hq
  unfold impl_compareDepends.f ltp
  simp only
  split
  · rename_i c
    refine ⟨_, rfl, ?_⟩
    rw [wrap64_id (by omega) (by omega)]
    simp [c]
    omega
  · rename_i c
    refine ⟨_, rfl, ?_⟩
    rw [wrap64_id (by omega) (by omega)]
    simp [c]
    omega
theorem impl_DependsOk_loop (l : List S83) (hn : l.length ≤ 9223372036854775806) : ∀ (d i k : Nat), i + d = l.length → d < k → (0 < i → inp (rd_T83 l ((i - 1 : Nat) : Int)) = true) → impl_DependsOk.l0 k l l (l.length : Int) (i : Int) = some (depFrom (if i = 0 then none else some (rd_T83 l ((i - 1 : Nat) : Int))) (l.drop i)) := by
  intro d
  induction d with
  | zero =>
    intro i k hi hk hp
    obtain ⟨k, rfl⟩ : ∃ m, k = m + 1 := ⟨k - 1, by omega⟩
    simp only [impl_DependsOk.l0]
    rw [if_neg (by omega), List.drop_eq_nil_of_le (by omega)]
    simp [depFrom]
  | succ d ih =>
    intro i k hi hk hp
    obtain ⟨k, rfl⟩ : ∃ m, k = m + 1 := ⟨k - 1, by omega⟩
    simp only [impl_DependsOk.l0, impl_inside_eq, Option.bind_some]
    rw [if_pos (by omega), if_pos (by omega), if_pos (by omega), drop_rdp l i (by omega)]
    have e := ih (i + 1) k (by omega) (by omega)
    rw [if_neg (by omega), show i + 1 - 1 = i from by omega] at e
    by_cases c : inR (rd_T83 l (i : Int)).f0 0 127 = true
    · rw [if_pos c]
      by_cases c2 : inR (rd_T83 l (i : Int)).f1 0 127 = true
      · rw [if_pos c2]
        have hi' : inp (rd_T83 l (i : Int)) = true := by unfold inp; rw [c, c2]; rfl
        have e := e (fun _ => hi')
        by_cases z : i = 0
        · subst z
          rw [if_neg (by simp), w64s (by omega), e, if_pos rfl]
          simp only [depFrom, inp, c, c2, Bool.true_and, Bool.and_self]
        · rw [if_pos (by omega), w64p (by omega) (by omega), if_pos (by omega), if_pos (by omega), if_neg z]
          obtain ⟨r, er, r0, r1, _⟩ := compare_eq _ _ (hp (by omega)) hi'
          rw [er]
          simp only [Option.bind_some, depFrom, hi', Bool.true_and]
          by_cases q : r ≥ 0
          · rw [if_pos q, r0.1 q]; simp
          · rw [if_neg q, w64s (by omega), e, r1.1 (by omega)]; simp
      · rw [if_neg c2]
        by_cases z : i = 0 <;> simp [z, depFrom, inp, c2]
        · subst z; simp at c2; simp [c2]
    · rw [if_neg c]
      by_cases z : i = 0 <;> simp [z, depFrom, inp, c]
      · subst z; simp at c; simp [c]
theorem impl_DependsOk_eq (l : List S83) (k : Nat) (hl : l.length ≤ 1048576) (hk : 1048577 < k) : impl_DependsOk.f k l = some (depOk l) := by
  unfold impl_DependsOk.f depOk
  have e := impl_DependsOk_loop l (by omega) l.length 0 k (by omega) (by omega) (by simp)
  simpa using e

theorem markDependS_loop (n m0 : Nat) (hn : 2 * n + m0 ≤ 4000000000) : ∀ (d i k : Nat) (x : List S83), i + d = n → d < k → x.length = n → (∀ j, j < i → x[j]? = some ⟨((m0 + 2 * j : Nat) : Int), ((m0 + 2 * j + 1 : Nat) : Int)⟩) → laws_markDependS.l0 k x ((m0 + 2 * i : Nat) : Int) (i : Int) = some (((m0 + 2 * n : Nat) : Int), (List.range n).map fun j => (⟨((m0 + 2 * j : Nat) : Int), ((m0 + 2 * j + 1 : Nat) : Int)⟩ : S83)) := by
  intro d
  induction d with
  | zero =>
    intro i k x hi hk hl hx
    obtain ⟨k, rfl⟩ : ∃ m, k = m + 1 := ⟨k - 1, by omega⟩
    simp only [laws_markDependS.l0]
    rw [if_neg (by omega)]
    have e : x = (List.range n).map fun j => (⟨((m0 + 2 * j : Nat) : Int), ((m0 + 2 * j + 1 : Nat) : Int)⟩ : S83) := by
      apply List.ext_getElem?
      intro j
      by_cases hj : j < n
      · rw [hx j (by omega)]; simp [hj]
      · rw [List.getElem?_eq_none (by omega), List.getElem?_eq_none (by simp; omega)]
    obtain rfl : i = n := by omega
    rw [← e]
  | succ d ih =>
    intro i k x hi hk hl hx
    obtain ⟨k, rfl⟩ : ∃ m, k = m + 1 := ⟨k - 1, by omega⟩
    simp only [laws_markDependS.l0, Option.bind_some]
    rw [if_pos (by omega), if_pos (by omega), w64s (by omega), w64s (by omega), w64s (by omega)]
    have e2 : m0 + 2 * i + 1 + 1 = m0 + 2 * (i + 1) := by omega
    rw [e2]
    refine ih (i + 1) k _ (by omega) (by omega) (by simpa using hl) fun j hj => ?_
    have e : ((i : Int)).toNat = i := by simp
    rw [e, List.getElem?_set]
    by_cases c : i = j
    · subst c
      rw [if_pos rfl, if_pos (by simp; omega)]
      congr 1
      unfold rd_T83
      simp [show i < x.length by omega]
    · rw [if_neg c, List.getElem?_set, if_neg c]; exact hx j (by omega)
theorem mark_anyp (l : List S83) (m0 k : Nat) (hl : l.length ≤ 3000000) (hm : m0 ≤ 10000000) (hk : 3000001 < k) : ∃ r, laws_markDependS.f k l (m0 : Int) = some ((m0 : Int) + 2 * (l.length : Int), r) := by
  have h1 := markDependS_loop l.length m0 (by omega) l.length 0 k l (by omega) (by omega) rfl (by simp)
  rw [show ((m0 + 2 * 0 : Nat) : Int) = m0 from by simp, show ((0 : Nat) : Int) = 0 from rfl, show ((m0 + 2 * l.length : Nat) : Int) = (m0 : Int) + 2 * (l.length : Int) by omega] at h1
  exact ⟨_, h1⟩

theorem heldDependS_loop (n m0 : Nat) (hn : 2 * n + m0 ≤ 4000000000) : ∀ (d i k : Nat), i + d = n → d < k → laws_heldDependS.l0 k ((List.range n).map fun j => (⟨((m0 + 2 * j : Nat) : Int), ((m0 + 2 * j + 1 : Nat) : Int)⟩ : S83)) ((m0 + 2 * i : Nat) : Int) (i : Int) = some ((m0 + 2 * n : Nat) : Int) := by
  intro d
  induction d with
  | zero =>
    intro i k hi hk
    obtain ⟨k, rfl⟩ : ∃ m, k = m + 1 := ⟨k - 1, by omega⟩
    simp only [laws_heldDependS.l0]
    rw [if_neg (by simp; omega)]
    obtain rfl : i = n := by omega
    rfl
  | succ d ih =>
    intro i k hi hk
    obtain ⟨k, rfl⟩ : ∃ m, k = m + 1 := ⟨k - 1, by omega⟩
    simp only [laws_heldDependS.l0]
    rw [if_pos (by simp; omega), if_pos (by omega), rdp_nat _ i (by simp; omega), w64s (by omega), w64s (by omega), w64s (by omega)]
    rw [if_pos (by simp), if_pos (by simp)]
    have e2 : m0 + 2 * i + 1 + 1 = m0 + 2 * (i + 1) := by omega
    rw [e2]
    exact ih (i + 1) k (by omega) (by omega)
theorem mark_heldp (l : List S83) (k : Nat) (hl : l.length ≤ 3000000) (hk : 3000001 < k) : ∃ r, laws_markDependS.f k l 1 = some (1 + 2 * (l.length : Int), r) ∧ laws_heldDependS.f k r 1 = some (1 + 2 * (l.length : Int)) := by
  have h1 := markDependS_loop l.length 1 (by omega) l.length 0 k l (by omega) (by omega) rfl (by simp)
  have h2 := heldDependS_loop l.length 1 (by omega) l.length 0 k (by omega) (by omega)
  rw [show ((1 + 2 * 0 : Nat) : Int) = 1 from rfl, show ((0 : Nat) : Int) = 0 from rfl, show ((1 + 2 * l.length : Nat) : Int) = 1 + 2 * (l.length : Int) by omega] at h1 h2
  exact ⟨_, h1, h2⟩

def stdG (w h r : Int) (i : Nat) : Int := stdP w r ((i / (cnt w h).toNat : Nat) : Int) ((i % (cnt w h).toNat : Nat) : Int)
def stdT (w h r : Int) : List Int := (List.range ((cnt w h).toNat * (cnt w h).toNat)).map (stdG w h r)
theorem stdT_len (w h r : Int) : (stdT w h r).length = (cnt w h).toNat * (cnt w h).toNat := by simp [stdT]
theorem cnt_sq (w h : Int) : (cnt w h).toNat * (cnt w h).toNat ≤ 256 ∧ (((cnt w h).toNat * (cnt w h).toNat : Nat) : Int) = cnt w h * cnt w h := by
  have b := cnt_bd w h
  obtain ⟨n, hn⟩ : ∃ n : Nat, cnt w h = n := ⟨(cnt w h).toNat, by omega⟩
  rw [hn] at b ⊢
  simp only [Int.toNat_natCast]
  refine ⟨?_, by simp⟩
  have : n ≤ 16 := by omega
  exact Nat.mul_le_mul this this

theorem strict_ext {α : Type} {lt : α → α → Prop} (irr : ∀ a, ¬ lt a a) (tr : ∀ a b c, lt a b → lt b c → lt a c) : ∀ {a b : List α}, a.Pairwise lt → b.Pairwise lt → (∀ x, x ∈ a ↔ x ∈ b) → a = b
  | [], [], _, _, _ => rfl
  | [], y :: b, _, _, h => absurd ((h y).2 List.mem_cons_self) (by simp)
  | x :: a, [], _, _, h => absurd ((h x).1 List.mem_cons_self) (by simp)
  | x :: a, y :: b, ha, hb, h => by
    obtain ⟨a1, a2⟩ := List.pairwise_cons.1 ha
    obtain ⟨b1, b2⟩ := List.pairwise_cons.1 hb
    have e : x = y := by
      rcases List.mem_cons.1 ((h x).1 List.mem_cons_self) with e | e
      · exact e
      · rcases List.mem_cons.1 ((h y).2 List.mem_cons_self) with e2 | e2
        · exact e2.symm
        · exact absurd (tr _ _ _ (b1 x e) (a1 y e2)) (irr y)
    subst e
    rw [strict_ext irr tr a2 b2 fun z => ⟨fun hz => ?_, fun hz => ?_⟩]
    · rcases List.mem_cons.1 ((h z).1 (List.mem_cons_of_mem _ hz)) with e | e
      · subst e; exact absurd (a1 z hz) (irr z)
      · exact e
    · rcases List.mem_cons.1 ((h z).2 (List.mem_cons_of_mem _ hz)) with e | e
      · subst e; exact absurd (b1 z hz) (irr z)
      · exact e
theorem upTo_strict {α : Type} [Inhabited α] [DecidableEq α] {le : α → α → Prop} (anti : ∀ a b, le a b → le b a → a = b) (d : Array α) (hs : ∀ i j, i < j → j < d.size → le d[i]! d[j]!) : ∀ m, m ≤ d.size → (Lib.compactUpTo d m).Pairwise (fun a b => le a b ∧ a ≠ b) ∧ ∀ x, x ∈ Lib.compactUpTo d m ↔ ∃ j, j < m ∧ d[j]! = x := by
  intro m
  induction m with
  | zero => intro _; exact ⟨by simp [Lib.compactUpTo], by simp [Lib.compactUpTo]⟩
  | succ m ih =>
    intro hm
    obtain ⟨h1, h2⟩ := ih (by omega)
    rw [Lib.compactUpTo_succ]
    by_cases q : Lib.keeps d m = true
    · rw [if_pos q]
      refine ⟨List.pairwise_append.2 ⟨h1, by simp, fun x hx y hy => ?_⟩, fun x => ?_⟩
      · obtain rfl := List.mem_singleton.1 hy
        obtain ⟨j, hj, rfl⟩ := (h2 x).1 hx
        refine ⟨hs j m hj (by omega), fun e => ?_⟩
        unfold Lib.keeps at q
        rcases of_decide_eq_true q with z | z
        · omega
        · apply z
          have l1 : le d[m - 1]! d[m]! := hs _ _ (by omega) (by omega)
          by_cases w : j = m - 1
          · rw [← w]; exact e.symm
          · have l2 := hs j (m - 1) (by omega) (by omega)
            rw [e] at l2
            exact anti _ _ l2 l1
      · rw [List.mem_append, List.mem_singleton, h2]
        constructor
        · rintro (⟨j, hj, e⟩ | e)
          · exact ⟨j, by omega, e⟩
          · exact ⟨m, by omega, e.symm⟩
        · rintro ⟨j, hj, e⟩
          by_cases z : j = m
          · subst z; exact Or.inr e.symm
          · exact Or.inl ⟨j, by omega, e⟩
    · rw [if_neg q, List.append_nil]
      refine ⟨h1, fun x => ?_⟩
      rw [h2]
      constructor
      · rintro ⟨j, hj, e⟩; exact ⟨j, by omega, e⟩
      · rintro ⟨j, hj, e⟩
        by_cases z : j = m
        · unfold Lib.keeps at q
          have q2 : ¬ (m = 0 ∨ d[m]! ≠ d[m - 1]!) := fun w => q (decide_eq_true w)
          rw [not_or] at q2
          exact ⟨m - 1, by omega, by rw [← e, z]; exact (Classical.not_not.1 q2.2).symm⟩
        · exact ⟨j, by omega, e⟩
theorem compact_strict {α : Type} [Inhabited α] [DecidableEq α] {le : α → α → Bool} (tr : ∀ a b c, le a b = true → le b c = true → le a c = true) (tot : ∀ a b, (le a b || le b a) = true) (anti : ∀ a b, le a b = true → le b a = true → a = b) (l : List α) : (Lib.compact (l.mergeSort le)).Pairwise (fun a b => le a b = true ∧ a ≠ b) ∧ ∀ x, x ∈ Lib.compact (l.mergeSort le) ↔ x ∈ l := by
  have hp := List.pairwise_mergeSort tr tot l
  have hs : ∀ i j, i < j → j < (l.mergeSort le).toArray.size → le (l.mergeSort le).toArray[i]! (l.mergeSort le).toArray[j]! = true := by
    intro i j hij hj
    have hj' : j < (l.mergeSort le).length := by simpa using hj
    rw [getElem!_pos _ i (by simp at hj ⊢; omega), getElem!_pos _ j hj]
    exact List.pairwise_iff_getElem.1 hp i j (by omega) hj' hij
  obtain ⟨h1, h2⟩ := upTo_strict (le := fun a b => le a b = true) anti (l.mergeSort le).toArray hs (l.mergeSort le).length (by simp)
  refine ⟨h1, fun x => (h2 x).trans ?_⟩
  rw [← List.mem_mergeSort (le := le), List.mem_iff_getElem]
  constructor
  · rintro ⟨j, hj, e⟩
    refine ⟨j, hj, ?_⟩
    rw [← e, getElem!_pos _ j (by simpa using hj)]
    simp
  · rintro ⟨j, hj, e⟩
    refine ⟨j, hj, ?_⟩
    rw [← e, getElem!_pos _ j (by simpa using hj)]
    simp

theorem ltp_iff {p q : S83} : ltp p q = true ↔ p.f0 < q.f0 ∨ (p.f0 = q.f0 ∧ p.f1 < q.f1) := by unfold ltp; simp
theorem ltp_irr (p : S83) : ¬ ltp p p = true := by rw [ltp_iff]; omega
theorem ltp_tr (a b c : S83) (h1 : ltp a b = true) (h2 : ltp b c = true) : ltp a c = true := by rw [ltp_iff] at *; omega
theorem dep_ext {p q : S83} (h0 : p.f0 = q.f0) (h1 : p.f1 = q.f1) : p = q := by cases p; cases q; simp_all
theorem ltp_tot {p q : S83} (h1 : ¬ ltp p q = true) (h2 : ¬ p = q) : ltp q p = true := by
  rw [ltp_iff] at *
  by_cases e : p.f0 = q.f0
  · by_cases e1 : p.f1 = q.f1
    · exact absurd (dep_ext e e1) h2
    · omega
  · omega
theorem depLe_iff {p q : S83} : depLe p q = true ↔ p.f0 < q.f0 ∨ (p.f0 = q.f0 ∧ p.f1 ≤ q.f1) := by unfold depLe; exact decide_eq_true_iff
theorem depIn_eq (p : S83) : depIn p = inp p := by
  unfold depIn inp inR
  by_cases h : 0 ≤ p.f0 ∧ p.f0 ≤ 127 ∧ 0 ≤ p.f1 ∧ p.f1 ≤ 127
  · rw [decide_eq_true h]; simp [h]
  · rw [decide_eq_false h]
    simp only [Bool.false_eq, Bool.and_eq_false_iff, decide_eq_false_iff_not]
    omega
/-- the list in ascending order, each once -/
def dsort (l : List S83) : List S83 := Lib.compact (l.mergeSort depLe)
theorem dsort_ok (l : List S83) : (dsort l).Pairwise (fun a b => ltp a b = true) ∧ ∀ x, x ∈ dsort l ↔ x ∈ l := by
  obtain ⟨h1, h2⟩ := compact_strict (le := depLe) (fun a b c h1 h2 => by rw [depLe_iff] at *; omega) (fun a b => by rw [Bool.or_eq_true, depLe_iff, depLe_iff]; omega) (fun a b h1 h2 => by rw [depLe_iff] at *; exact dep_ext (by omega) (by omega)) l
  refine ⟨h1.imp ?_, h2⟩
  rintro a b ⟨h3, h4⟩
  rw [depLe_iff] at h3
  rw [ltp_iff]
  by_cases e : a.f0 = b.f0
  · by_cases e1 : a.f1 = b.f1
    · exact absurd (dep_ext e e1) h4
    · omega
  · omega
theorem dsort_len (l : List S83) : (dsort l).length ≤ l.length := by
  unfold dsort Lib.compact Lib.compactUpTo
  rw [List.length_map]
  have h := List.length_filter_le (Lib.keeps (l.mergeSort depLe).toArray) (List.range (l.mergeSort depLe).length)
  rw [List.length_range, List.length_mergeSort] at h
  rw [List.length_mergeSort]
  exact h
theorem asc_ext {a b : List S83} (ha : a.Pairwise (fun a b => ltp a b = true)) (hb : b.Pairwise (fun a b => ltp a b = true)) (h : ∀ x, x ∈ a ↔ x ∈ b) : a = b := strict_ext ltp_irr ltp_tr ha hb h
theorem impl_arranged_eq (l : List S83) (hl : l.length ≤ 100000000) (h : ∀ p ∈ l, inp p = true) : impl_arranged.f l = some (dsort l) := by
  unfold impl_arranged.f
  rw [if_pos (List.all_eq_true.2 fun p hp => by rw [depIn_eq]; exact h p hp), if_pos hl]
  rfl

theorem l08Less_eq (p q : S83) : spec_l08Less.f p.f0 p.f1 q.f0 q.f1 = some (ltp p q) := by
  unfold spec_l08Less.f ltp
  by_cases c : p.f0 < q.f0
  · rw [if_pos c]; simp [c]
  · rw [if_neg c]
    by_cases c2 : p.f0 = q.f0
    · rw [if_pos c2]; simp [c2]
    · rw [if_neg c2]; simp [c, c2]
theorem put_loop (l : List S83) (d : S83) (hn : l.length ≤ 1048576) (hs : l.Pairwise (fun a b => ltp a b = true)) : ∀ (j k : Nat), j ≤ l.length → j < k → (∀ x ∈ l.drop j, ltp d x = true) → ∃ r, spec_l08Put.l0 k l (j : Int) d.f0 d.f1 = some r ∧ r.Pairwise (fun a b => ltp a b = true) ∧ (∀ x, x ∈ r ↔ x = d ∨ x ∈ l) ∧ r.length ≤ l.length + 1 := by
  have ins : ∀ j : Nat, j ≤ l.length → (∀ x ∈ l.take j, ltp x d = true) → (∀ x ∈ l.drop j, ltp d x = true) → (l.take j ++ [d] ++ l.drop j).Pairwise (fun a b => ltp a b = true) ∧ (∀ x, x ∈ l.take j ++ [d] ++ l.drop j ↔ x = d ∨ x ∈ l) := by
    intro j hj h1 h2
    have hs2 := hs
    rw [← List.take_append_drop j l, List.pairwise_append] at hs2
    refine ⟨List.pairwise_append.2 ⟨List.pairwise_append.2 ⟨hs2.1, by simp, fun x hx y hy => by obtain rfl := List.mem_singleton.1 hy; exact h1 x hx⟩, hs2.2.1, fun x hx y hy => ?_⟩, fun x => ?_⟩
    · rcases List.mem_append.1 hx with hx | hx
      · exact hs2.2.2 x hx y hy
      · obtain rfl := List.mem_singleton.1 hx; exact h2 y hy
    · have e : x ∈ l ↔ x ∈ l.take j ∨ x ∈ l.drop j := by rw [← List.mem_append, List.take_append_drop]
      rw [e]
      simp only [List.mem_append, List.mem_singleton]
      constructor
      · rintro ((h | h) | h)
        · exact Or.inr (Or.inl h)
        · exact Or.inl h
        · exact Or.inr (Or.inr h)
      · rintro (h | h | h)
        · exact Or.inl (Or.inr h)
        · exact Or.inl (Or.inl h)
        · exact Or.inr h
  intro j
  induction j with
  | zero =>
    intro k hj hk hd
    obtain ⟨k, rfl⟩ : ∃ m, k = m + 1 := ⟨k - 1, by omega⟩
    have i := ins 0 hj (by simp) hd
    simp only [spec_l08Put.l0]
    rw [if_neg (by omega)]
    simp only [Option.bind_some]
    have e0 : (((0 : Nat) : Int)).toNat = 0 := rfl
    rw [if_pos (by omega), if_pos (by omega), e0]
    simp only [Option.bind_some, List.length_nil, List.length_take, List.length_append, List.length_drop, List.length_singleton, List.nil_append]
    rw [if_pos (by omega), if_pos (by omega), if_pos (by omega)]
    exact ⟨_, rfl, i.1, i.2, by simp⟩
  | succ j ih =>
    intro k hj hk hd
    obtain ⟨k, rfl⟩ : ∃ m, k = m + 1 := ⟨k - 1, by omega⟩
    simp only [spec_l08Put.l0]
    rw [if_pos (by omega), w64p (by omega) (by omega), if_pos (by omega), if_pos (by omega)]
    simp only [Nat.add_sub_cancel]
    rw [l08Less_eq d (rd_T83 l (j : Int)), rdp_nat l j (by omega)]
    simp only [Option.bind_some]
    by_cases c : ltp d l[j] = true
    · rw [if_pos c]
      exact ih k (by omega) (by omega) (fun x hx => by
        rw [List.drop_eq_getElem_cons (show j < l.length by omega)] at hx
        rcases List.mem_cons.1 hx with rfl | hx
        · exact c
        · exact hd x hx)
    · rw [if_neg c]
      by_cases z : l[j] = d
      · rw [if_pos (by rw [z]; simp)]
        exact ⟨l, rfl, hs, fun x => ⟨Or.inr, fun h => by rcases h with rfl | h; exact z ▸ List.getElem_mem _; exact h⟩, by omega⟩
      · rw [if_neg (by simp only [Bool.and_eq_true, beq_iff_eq]; rintro ⟨h0, h1⟩; exact z (dep_ext h0 h1))]
        have lt := ltp_tot c (fun e => z e.symm)
        have i := ins (j + 1) hj (fun x hx => by
          rw [List.take_succ_eq_append_getElem (show j < l.length by omega)] at hx
          rcases List.mem_append.1 hx with hx | hx
          · have hs2 := hs
            rw [← List.take_append_drop j l, List.pairwise_append] at hs2
            exact ltp_tr _ _ _ (hs2.2.2 x hx l[j] (by rw [List.drop_eq_getElem_cons (show j < l.length by omega)]; exact List.mem_cons_self)) lt
          · obtain rfl := List.mem_singleton.1 hx; exact lt) hd
        have e0 : (((j + 1 : Nat) : Int)).toNat = j + 1 := by simp
        rw [if_pos (by omega), if_pos (by omega), e0]
        simp only [Option.bind_some, List.length_nil, List.length_take, List.length_append, List.length_drop, List.length_singleton, List.nil_append]
        rw [if_pos (by omega), if_pos (by omega), if_pos (by omega)]
        exact ⟨_, rfl, i.1, i.2, by simp; omega⟩
theorem put_ok (l : List S83) (a b : Int) (k : Nat) (hn : l.length ≤ 1048576) (hk : 1048577 < k) (hs : l.Pairwise (fun a b => ltp a b = true)) : ∃ r, spec_l08Put.f k l a b = some r ∧ r.Pairwise (fun a b => ltp a b = true) ∧ (∀ x, x ∈ r ↔ x = ⟨a, b⟩ ∨ x ∈ l) ∧ r.length ≤ l.length + 1 := by
  unfold spec_l08Put.f
  exact put_loop l ⟨a, b⟩ hn hs l.length k (Nat.le_refl _) (by omega) (by simp)





theorem depFrom_asc : ∀ (l : List S83) (o : Option S83), depFrom o l = true → l.Pairwise (fun a b => ltp a b = true) ∧ (∀ x ∈ l, inp x = true) ∧ (∀ q, o = some q → ∀ x ∈ l, ltp q x = true)
  | [], _, _ => ⟨by simp, by simp, by simp⟩
  | c :: r, o, h => by
    have h2 : inp c = true ∧ depFrom (some c) r = true ∧ (∀ q, o = some q → ltp q c = true) := by
      cases o with
      | none => simp only [depFrom, Bool.and_eq_true] at h; exact ⟨h.1, h.2, by simp⟩
      | some q => simp only [depFrom, Bool.and_eq_true] at h; exact ⟨h.1, h.2.2, fun q' e => by injection e with e; subst e; exact h.2.1⟩
    obtain ⟨p1, p2, p3⟩ := depFrom_asc r (some c) h2.2.1
    refine ⟨List.pairwise_cons.2 ⟨p3 c rfl, p1⟩, fun x hx => ?_, fun q e x hx => ?_⟩
    · rcases List.mem_cons.1 hx with rfl | hx
      · exact h2.1
      · exact p2 x hx
    · rcases List.mem_cons.1 hx with rfl | hx
      · exact h2.2.2 q e
      · have a := h2.2.2 q e
        have b := p3 c rfl x hx
        unfold ltp at *
        simp only [Bool.or_eq_true, Bool.and_eq_true, decide_eq_true_eq] at *
        omega
theorem depFrom_of : ∀ (l : List S83) (o : Option S83), l.Pairwise (fun a b => ltp a b = true) → (∀ x ∈ l, inp x = true) → (∀ q, o = some q → ∀ x ∈ l, ltp q x = true) → depFrom o l = true
  | [], o, _, _, _ => by cases o <;> rfl
  | c :: r, o, h1, h2, h3 => by
    obtain ⟨a, b⟩ := List.pairwise_cons.1 h1
    have ih := depFrom_of r (some c) b (fun x hx => h2 x (List.mem_cons_of_mem _ hx)) (fun q e x hx => by injection e with e; subst e; exact a x hx)
    cases o with
    | none => simp only [depFrom, ih, h2 c List.mem_cons_self, Bool.and_self]
    | some q => simp only [depFrom, ih, h2 c List.mem_cons_self, h3 q rfl c List.mem_cons_self, Bool.and_self]
theorem depOk_iff (l : List S83) : depOk l = true ↔ l.Pairwise (fun a b => ltp a b = true) ∧ ∀ x ∈ l, inp x = true :=
  ⟨fun h => ⟨(depFrom_asc l none h).1, (depFrom_asc l none h).2.1⟩, fun h => depFrom_of l none h.1 h.2 (by simp)⟩

def mrg (a b : List S83) : List S83 := if (depOk a && depOk b) = true then dsort (a ++ b) else []
theorem mrg_len (a b : List S83) : (mrg a b).length ≤ a.length + b.length := by
  unfold mrg
  split
  · have := dsort_len (a ++ b); rw [List.length_append] at this; exact this
  · simp
theorem impl_MergeDepends_eq (a b : List S83) (k : Nat) (ha : a.length ≤ 1048576) (hb : b.length ≤ 1048576) (hk : 1048577 < k) : impl_MergeDepends.f k a b = some (mrg a b) := by
  unfold impl_MergeDepends.f mrg
  rw [impl_DependsOk_eq a k ha hk, impl_DependsOk_eq b k hb hk]
  simp only [Option.bind_some]
  by_cases c : depOk a = true
  · rw [if_pos c]
    by_cases c2 : depOk b = true
    · rw [if_pos c2, if_pos (by omega), if_pos (by simp [c, c2]), impl_arranged_eq (a ++ b) (by rw [List.length_append]; omega) (fun p hp => by
        rcases List.mem_append.1 hp with hp | hp
        · exact ((depOk_iff a).1 c).2 p hp
        · exact ((depOk_iff b).1 c2).2 p hp)]
    · rw [if_neg c2, if_neg (by simp [c2])]
  · rw [if_neg c, if_neg (by simp [c])]

theorem spec_merge_loop (b : List S83) (hb : b.length ≤ 1048576) : ∀ (d i k : Nat) (L : List S83), i + d = b.length → 1048600 + d < k → L.length + d ≤ 1048576 → L.Pairwise (fun a b => ltp a b = true) → ∃ r, spec_MergeDepends.l0 k b L (i : Int) = some r ∧ r.Pairwise (fun a b => ltp a b = true) ∧ ∀ x, x ∈ r ↔ x ∈ b.drop i ∨ x ∈ L := by
  intro d
  induction d with
  | zero =>
    intro i k L hi hk hL hs
    obtain ⟨k, rfl⟩ : ∃ m, k = m + 1 := ⟨k - 1, by omega⟩
    simp only [spec_MergeDepends.l0]
    rw [if_neg (by omega), List.drop_eq_nil_of_le (by omega)]
    exact ⟨L, rfl, hs, by simp⟩
  | succ d ih =>
    intro i k L hi hk hL hs
    obtain ⟨k, rfl⟩ : ∃ m, k = m + 1 := ⟨k - 1, by omega⟩
    simp only [spec_MergeDepends.l0]
    obtain ⟨r, e, r1, r2, r3⟩ := put_ok L (rd_T83 b (i : Int)).f0 (rd_T83 b (i : Int)).f1 k (by omega) (by omega) hs
    rw [if_pos (by omega), if_pos (by omega), e]
    simp only [Option.bind_some]
    rw [w64s (by omega)]
    obtain ⟨r', e2, p1, p2⟩ := ih (i + 1) k r (by omega) (by omega) (by omega) r1
    refine ⟨r', e2, p1, fun x => ?_⟩
    rw [p2, r2, drop_rdp b i (by omega), List.mem_cons]
    have et : (⟨(rd_T83 b (i : Int)).f0, (rd_T83 b (i : Int)).f1⟩ : S83) = rd_T83 b (i : Int) := rfl
    rw [et]
    constructor
    · rintro (h | h | h)
      · exact Or.inl (Or.inr h)
      · exact Or.inl (Or.inl h)
      · exact Or.inr h
    · rintro ((h | h) | h)
      · exact Or.inr (Or.inl h)
      · exact Or.inl h
      · exact Or.inr (Or.inr h)
theorem spec_MergeDepends_eq (a b : List S83) (k : Nat) (hs : a.length + b.length ≤ 1048576) (hk : 3300000 < k) : spec_MergeDepends.f k a b = some (mrg a b) := by
  obtain ⟨k, rfl⟩ : ∃ m, k = m + 1 := ⟨k - 1, by omega⟩
  unfold spec_MergeDepends.f mrg
  simp only [Option.bind_some, List.length_nil, List.nil_append]
  rw [if_pos (by omega), spec_DependsOk_eq a (k + 1) (by omega) (by omega), spec_DependsOk_eq b (k + 1) (by omega) (by omega)]
  simp only [Option.bind_some]
  by_cases c : depOk a = true
  · rw [if_pos c]
    by_cases c2 : depOk b = true
    · simp only [spec_MergeDepends.j0]
      rw [if_neg (by simp [c2]), if_pos (by simp [c, c2])]
      obtain ⟨r, e, h1, h2⟩ := spec_merge_loop b (by omega) b.length 0 k a (by omega) (by omega) (by omega) ((depOk_iff a).1 c).1
      rw [show ((0 : Nat) : Int) = 0 from rfl] at e
      rw [e]
      congr 1
      obtain ⟨g1, g2⟩ := dsort_ok (a ++ b)
      refine asc_ext h1 g1 fun x => ?_
      rw [h2, g2, List.drop_zero, List.mem_append]
      exact Or.comm
    · simp only [spec_MergeDepends.j0]
      rw [if_pos (by simp [c2]), if_neg (by simp [c2])]
  · rw [if_neg c]
    simp only [spec_MergeDepends.j0]
    rw [if_pos trivial, if_neg (by simp [c])]

theorem FnExactMergeDepends : laws_FnExactMergeDepends.Pure := by
  intro a b ha _ hb _
  obtain ⟨k, hk⟩ : ∃ k : Nat, 4000000 ≤ k := ⟨_, Nat.le_refl _⟩
  refine ⟨k + 1, ?_⟩
  unfold laws_FnExactMergeDepends.f
  rw [szDependS_eq a 1048576 (by omega) ha]
  simp only [Option.bind_some]
  by_cases q : (a.length : Int) ≤ 1048576
  · rw [if_pos q, if_neg (by omega), szDependS_eq b _ (by omega) hb]
    simp only [Option.bind_some]
    by_cases q2 : (b.length : Int) ≤ 1048576 - a.length
    · have hca := cv_len a
      have hcb := cv_len b
      have hs := mrg_len (cv a) (cv b)
      rw [if_pos q2, if_neg (by omega)]
      obtain ⟨r, m1⟩ := mark_anyp (cv a) 1 (k + 1) (by omega) (by omega) (by omega)
      rw [show ((1 : Nat) : Int) = 1 from rfl] at m1
      obtain ⟨r3, m4⟩ := mark_anyp (cv b) (1 + 2 * (cv a).length) (k + 1) (by omega) (by omega) (by omega)
      rw [show ((1 + 2 * (cv a).length : Nat) : Int) = 1 + 2 * ((cv a).length : Int) by omega] at m4
      obtain ⟨r2, m2, m3⟩ := mark_heldp (mrg (cv a) (cv b)) k (by omega) (by omega)
      simp only [toDependS_eq a (k + 1) (by omega) (by omega), toDependS_eq b (k + 1) (by omega) (by omega), spec_MergeDepends_eq (cv a) (cv b) (k + 1) (by omega) (by omega), impl_MergeDepends_eq (cv a) (cv b) (k + 1) (by omega) (by omega) (by omega), eqDependS_self (cv a) (k + 1) (by omega) (by omega), eqDependS_self (cv b) (k + 1) (by omega) (by omega), eqDependS_self (mrg (cv a) (cv b)) (k + 1) (by omega) (by omega), m1, m4, Option.bind_some, if_true]
      rw [if_neg (by omega)]
      simp only [laws_FnExactMergeDepends.j0, m2, m3, Option.bind_some, toDependS_eq a k (by omega) (by omega), toDependS_eq b k (by omega) (by omega), impl_MergeDepends_eq (cv a) (cv b) k (by omega) (by omega) (by omega), eqDependS_self (mrg (cv a) (cv b)) k (by omega) (by omega), if_true]
      rw [if_neg (by simp), if_neg (by omega), if_neg (by omega)]
    · rw [if_neg q2, if_pos (by omega)]
  · rw [if_neg q, if_pos (by omega)]

end Go.Proofs.Ytmfkgnfjjfnfmaa.Pure
