/- What is proved: the statement FnExactRisesAlong, in its pure form, over numbers and lists: the program's and the reference's RisesAlong agree for all arguments, and the arguments stay (no conditions). -/
import Derived.Test.YtohccnaellachaaXR2
import Derived.Test.YtohccnaellachaaModel
set_option linter.unusedVariables false
set_option linter.unusedSimpArgs false
namespace Go.Proofs.Ytohccnaellachaa.Pure
open Go.RowKit Go.Proofs.Ytohccnaellachaa.XR Go.Proofs.Ytohccnaellachaa.M Go.Proofs.YtohccnaellachaaW.PrintWords Go.Proofs.YtohccnaellachaaW.PrintLast
theorem rd_nat (l : List Int) (i : Nat) (h : i < l.length) : rd l (i : Int) = l[i] := by unfold rd; simp [h]
theorem drop_rd (l : List Int) (i : Nat) (h : i < l.length) : l.drop i = rd l (i : Int) :: l.drop (i + 1) := by
  rw [rd_nat l i h]; exact List.drop_eq_getElem_cons h
theorem w64s {i : Nat} (h : i ≤ 9223372036854775806) : wrap64 ((i : Int) + 1) = ((i + 1 : Nat) : Int) := by rw [wrap64_id (by omega) (by omega)]; omega
theorem w64p {i : Nat} (h : i ≤ 9223372036854775806) (h0 : 0 < i) : wrap64 ((i : Int) - 1) = ((i - 1 : Nat) : Int) := by rw [wrap64_id (by omega) (by omega)]; omega

theorem impl_inside_eq (a b c : Int) : impl_inside.f a b c = some (inR a b c) := by
  unfold impl_inside.f inR
  by_cases h : b ≤ a <;> simp [h]

theorem spec_l01In_eq (a b c : Int) : spec_l01In.f a b c = some (inR a b c) := by
  unfold spec_l01In.f inR
  by_cases h : b ≤ a <;> simp [h]

theorem toIntS_loop (x0 : List Int) (hn : x0.length ≤ 9223372036854775806) : ∀ (d i k : Nat) (x3 : List Int), i + d = x0.length → d < k → x3.length = x0.length → (∀ j, j < i → x3[j]? = x0[j]?) → laws_toIntS.l0 k x0 x3 (i : Int) = some x0 := by
  intro d
  induction d with
  | zero =>
    intro i k x3 hi hk hl hx
    obtain ⟨k, rfl⟩ : ∃ m, k = m + 1 := ⟨k - 1, by omega⟩
    simp only [laws_toIntS.l0]
    rw [if_neg (by omega)]
    congr 1
    apply List.ext_getElem?
    intro j
    by_cases hj : j < x0.length
    · exact hx j (by omega)
    · rw [List.getElem?_eq_none (by omega), List.getElem?_eq_none (by omega)]
  | succ d ih =>
    intro i k x3 hi hk hl hx
    obtain ⟨k, rfl⟩ : ∃ m, k = m + 1 := ⟨k - 1, by omega⟩
    simp only [laws_toIntS.l0]
    rw [if_pos (by omega), if_pos (by omega), if_pos (by omega), w64s (by omega)]
    refine ih (i + 1) k _ (by omega) (by omega) (by simpa using hl) fun j hj => ?_
    have e : ((i : Int)).toNat = i := by simp
    rw [e, List.getElem?_set]
    by_cases c : i = j
    · subst c; rw [if_pos rfl, if_pos (by omega), rd_nat _ _ (by omega), List.getElem?_eq_getElem (by omega)]
    · rw [if_neg c]; exact hx j (by omega)
theorem toIntS_eq (l : List Int) (k : Nat) (hl : l.length ≤ 1048576) (hk : 1048577 < k) : laws_toIntS.f k l = some l := by
  unfold laws_toIntS.f
  rw [if_pos (by omega), if_pos (by simp; omega)]
  exact toIntS_loop l (by omega) l.length 0 k _ (by omega) (by omega) (by simp) (by simp)

theorem eqIntS_loop (a b : List Int) (hl : a.length = b.length) (hn : a.length ≤ 9223372036854775806) : ∀ (d i k : Nat), i + d = a.length → d < k → laws_eqIntS.l0 k a b (i : Int) = some (decide (a.drop i = b.drop i)) := by
  intro d
  induction d with
  | zero =>
    intro i k hi hk
    obtain ⟨k, rfl⟩ : ∃ m, k = m + 1 := ⟨k - 1, by omega⟩
    simp only [laws_eqIntS.l0]
    rw [if_neg (by omega), List.drop_eq_nil_of_le (by omega), List.drop_eq_nil_of_le (by omega)]
    simp
  | succ d ih =>
    intro i k hi hk
    obtain ⟨k, rfl⟩ : ∃ m, k = m + 1 := ⟨k - 1, by omega⟩
    simp only [laws_eqIntS.l0]
    rw [if_pos (by omega), if_pos (by omega), if_pos (by omega), drop_rd a i (by omega), drop_rd b i (by omega)]
    by_cases c : rd a (i : Int) = rd b (i : Int)
    · rw [if_pos c, w64s (by omega), ih (i + 1) k (by omega) (by omega)]
      simp [c]
    · rw [if_neg c]; simp [c]
theorem eqIntS_eq (a b : List Int) (k : Nat) (ha : a.length ≤ 1048576) (hk : 1048577 < k) : laws_eqIntS.f k a b = some (decide (a = b)) := by
  unfold laws_eqIntS.f
  by_cases c : (a.length : Int) = (b.length : Int)
  · rw [if_pos c]
    have h := eqIntS_loop a b (by omega) (by omega) a.length 0 k (by omega) (by omega)
    simpa using h
  · rw [if_neg c]
    have : a ≠ b := fun e => c (by rw [e])
    simp [this]
theorem eqIntS_self (a : List Int) (k : Nat) (ha : a.length ≤ 1048576) (hk : 1048577 < k) : laws_eqIntS.f k a a = some true := by rw [eqIntS_eq a a k ha hk]; simp

theorem eqIntS_big (a : List Int) (k : Nat) (ha : a.length ≤ 2000000) (hk : 2000001 < k) : laws_eqIntS.f k a a = some true := by
  unfold laws_eqIntS.f
  rw [if_pos rfl]
  have h := eqIntS_loop a a (by omega) (by omega) a.length 0 k (by omega) (by omega)
  simpa using h

/-- the ranks rise along the route -/
def rises (r : List Int) : Option Int → List Int → Bool
  | _, [] => true
  | none, c :: t => inR c 0 ((r.length : Int) - 1) && rises r (some c) t
  | some q, c :: t => inR c 0 ((r.length : Int) - 1) && (decide (rd r q < rd r c) && rises r (some c) t)
theorem impl_RisesAlong_loop (r p : List Int) (hr : r.length ≤ 1048576) (hp : p.length ≤ 1048576) : ∀ (d i k : Nat), i + d = p.length → d < k → (i ≠ 0 → 0 ≤ rd p ((i - 1 : Nat) : Int) ∧ rd p ((i - 1 : Nat) : Int) < r.length) → impl_RisesAlong.l0 k r p p (p.length : Int) (i : Int) = some (rises r (if i = 0 then none else some (rd p ((i - 1 : Nat) : Int))) (p.drop i)) := by
  intro d
  induction d with
  | zero =>
    intro i k hi hk _
    obtain ⟨k, rfl⟩ : ∃ m, k = m + 1 := ⟨k - 1, by omega⟩
    simp only [impl_RisesAlong.l0]
    rw [if_neg (by omega), List.drop_eq_nil_of_le (by omega)]
    simp [rises]
  | succ d ih =>
    intro i k hi hk hq
    obtain ⟨k, rfl⟩ : ∃ m, k = m + 1 := ⟨k - 1, by omega⟩
    simp only [impl_RisesAlong.l0]
    rw [if_pos (by omega), if_pos (by omega), if_pos (by omega), impl_inside_eq, wrap64_id (x := (r.length : Int) - 1) (by omega) (by omega), drop_rd p i (by omega)]
    simp only [Option.bind_some]
    by_cases c : inR (rd p (i : Int)) 0 ((r.length : Int) - 1) = true
    · have cb := inR_iff.1 c
      have e := ih (i + 1) k (by omega) (by omega) (fun _ => by rw [show i + 1 - 1 = i by omega]; omega)
      rw [if_neg (by omega), show i + 1 - 1 = i from by omega] at e
      rw [if_pos c]
      by_cases z : i = 0
      · subst z
        rw [if_neg (by simp), w64s (by omega), e, if_pos rfl]
        simp only [rises, c, Bool.true_and]
      · have q1 := hq z
        rw [if_pos (by omega), w64p (by omega) (by omega), if_pos (by omega), if_pos (by omega), if_pos q1.1, if_pos q1.2, if_pos cb.1, if_pos (by omega), if_neg z]
        by_cases q : rd r (rd p ((i - 1 : Nat) : Int)) ≥ rd r (rd p (i : Int))
        · rw [if_pos q]
          simp only [rises]
          rw [show decide (rd r (rd p ((i - 1 : Nat) : Int)) < rd r (rd p (i : Int))) = false from decide_eq_false (by omega)]
          simp
        · rw [if_neg q, w64s (by omega), e]
          simp only [rises]
          rw [show decide (rd r (rd p ((i - 1 : Nat) : Int)) < rd r (rd p (i : Int))) = true from decide_eq_true (by omega), c]
          simp
    · rw [if_neg c]
      have c' : inR (rd p (i : Int)) 0 ((r.length : Int) - 1) = false := by simpa using c
      by_cases z : i = 0
      · rw [if_pos z]; simp only [rises, c', Bool.false_and]
      · rw [if_neg z]; simp only [rises, c', Bool.false_and]
theorem impl_RisesAlong_eq (r p : List Int) (k : Nat) (hr : r.length ≤ 1048576) (hp : p.length ≤ 1048576) (hk : 1048577 < k) : impl_RisesAlong.f k r p = some (rises r none p) := by
  unfold impl_RisesAlong.f
  have e := impl_RisesAlong_loop r p hr hp p.length 0 k (by omega) (by omega) (fun z => absurd rfl z)
  rw [show ((0 : Nat) : Int) = 0 from rfl] at e
  rw [e]
  simp
theorem spec_RisesAlong_loop (r p : List Int) (hr : r.length ≤ 1048576) (hp : p.length ≤ 1048576) : ∀ (d i k : Nat), i + d = p.length → d < k → (i ≠ 0 → 0 ≤ rd p ((i - 1 : Nat) : Int) ∧ rd p ((i - 1 : Nat) : Int) < r.length) → spec_RisesAlong.l0 k r p (i : Int) = some (rises r (if i = 0 then none else some (rd p ((i - 1 : Nat) : Int))) (p.drop i)) := by
  intro d
  induction d with
  | zero =>
    intro i k hi hk _
    obtain ⟨k, rfl⟩ : ∃ m, k = m + 1 := ⟨k - 1, by omega⟩
    simp only [spec_RisesAlong.l0]
    rw [if_neg (by omega), List.drop_eq_nil_of_le (by omega)]
    simp [rises]
  | succ d ih =>
    intro i k hi hk hq
    obtain ⟨k, rfl⟩ : ∃ m, k = m + 1 := ⟨k - 1, by omega⟩
    simp only [spec_RisesAlong.l0]
    rw [if_pos (by omega), if_pos (by omega), spec_l01In_eq, wrap64_id (x := (r.length : Int) - 1) (by omega) (by omega), drop_rd p i (by omega)]
    simp only [Option.bind_some]
    by_cases c : inR (rd p (i : Int)) 0 ((r.length : Int) - 1) = true
    · have cb := inR_iff.1 c
      have e := ih (i + 1) k (by omega) (by omega) (fun _ => by rw [show i + 1 - 1 = i by omega]; omega)
      rw [if_neg (by omega), show i + 1 - 1 = i from by omega] at e
      rw [if_pos c]
      by_cases z : i = 0
      · subst z
        rw [if_neg (by simp), w64s (by omega), e, if_pos rfl]
        simp only [rises, c, Bool.true_and]
      · have q1 := hq z
        rw [if_pos (by omega), w64p (by omega) (by omega), if_pos (by omega), if_pos (by omega), if_pos q1.1, if_pos q1.2, if_pos cb.1, if_pos (by omega), if_neg z]
        by_cases q : rd r (rd p ((i - 1 : Nat) : Int)) ≥ rd r (rd p (i : Int))
        · rw [if_pos q]
          simp only [rises]
          rw [show decide (rd r (rd p ((i - 1 : Nat) : Int)) < rd r (rd p (i : Int))) = false from decide_eq_false (by omega)]
          simp
        · rw [if_neg q, w64s (by omega), e]
          simp only [rises]
          rw [show decide (rd r (rd p ((i - 1 : Nat) : Int)) < rd r (rd p (i : Int))) = true from decide_eq_true (by omega), c]
          simp
    · rw [if_neg c]
      have c' : inR (rd p (i : Int)) 0 ((r.length : Int) - 1) = false := by simpa using c
      by_cases z : i = 0
      · rw [if_pos z]; simp only [rises, c', Bool.false_and]
      · rw [if_neg z]; simp only [rises, c', Bool.false_and]
theorem spec_RisesAlong_eq (r p : List Int) (k : Nat) (hr : r.length ≤ 1048576) (hp : p.length ≤ 1048576) (hk : 1048577 < k) : spec_RisesAlong.f k r p = some (rises r none p) := by
  unfold spec_RisesAlong.f
  have e := spec_RisesAlong_loop r p hr hp p.length 0 k (by omega) (by omega) (fun z => absurd rfl z)
  rw [show ((0 : Nat) : Int) = 0 from rfl] at e
  rw [e]
  simp

theorem FnExactRisesAlong : laws_FnExactRisesAlong.Pure := by
  intro r p hr _ _ hp _ _
  obtain ⟨k, hk⟩ : ∃ k : Nat, 4000000 ≤ k := ⟨_, Nat.le_refl _⟩
  refine ⟨k, ?_⟩
  unfold laws_FnExactRisesAlong.f
  by_cases c1 : (r.length : Int) > 1048576
  · rw [if_pos c1]
  rw [if_neg c1]
  by_cases c2 : (p.length : Int) > 1048576
  · rw [if_pos c2]
  rw [if_neg c2]
  simp only [toIntS_eq r k (by omega) (by omega), toIntS_eq p k (by omega) (by omega), spec_RisesAlong_eq r p k (by omega) (by omega) (by omega), impl_RisesAlong_eq r p k (by omega) (by omega) (by omega), eqIntS_self r k (by omega) (by omega), eqIntS_self p k (by omega) (by omega), Option.bind_some, if_true]
  simp

end Go.Proofs.Ytohccnaellachaa.Pure
