/- What is proved: the statement FnClamped, in its pure form, over numbers and lists: a clamped number is in the range, is not changed again, and equals the number if this is in the range, for every draw (no conditions). -/
import Derived.Test.YtohccnaellachaaX8
import Derived.Test.YtohccnaellachaaModel
set_option linter.unusedVariables false
set_option linter.unusedSimpArgs false
namespace Go.Proofs.Ytohccnaellachaa.Pure
open Go.RowKit Go.Proofs.Ytohccnaellachaa.X Go.Proofs.Ytohccnaellachaa.M Go.Proofs.YtohccnaellachaaW.PrintWords Go.Proofs.YtohccnaellachaaW.PrintLast
theorem rd_nat (l : List Int) (i : Nat) (h : i < l.length) : rd l (i : Int) = l[i] := by unfold rd; simp [h]
theorem drop_rd (l : List Int) (i : Nat) (h : i < l.length) : l.drop i = rd l (i : Int) :: l.drop (i + 1) := by
  rw [rd_nat l i h]; exact List.drop_eq_getElem_cons h
theorem w64s {i : Nat} (h : i ≤ 9223372036854775806) : wrap64 ((i : Int) + 1) = ((i + 1 : Nat) : Int) := by rw [wrap64_id (by omega) (by omega)]; omega
theorem w64p {i : Nat} (h : i ≤ 9223372036854775806) (h0 : 0 < i) : wrap64 ((i : Int) - 1) = ((i - 1 : Nat) : Int) := by rw [wrap64_id (by omega) (by omega)]; omega

theorem i64_and255 (n : Int) : bits .and .i64 n 255 = n % 256 := by
  have h : (BitVec.ofInt 64 255).toNat = 2 ^ 8 - 1 := by decide
  have key : (BitVec.ofInt 64 n &&& BitVec.ofInt 64 255).toNat = (n % ((2 ^ 64 : Nat) : Int)).toNat % 2 ^ 8 := by
    rw [BitVec.toNat_and, BitVec.toNat_ofInt, h, Nat.and_two_pow_sub_one_eq_mod]
  show IntKind.i64.wrap ((BitVec.ofInt 64 n &&& BitVec.ofInt 64 255).toNat : Nat) = n % 256
  rw [key, IntKind.wrap_i64]
  omega
/-- the cursor: a place in the bytes -/
def Cur (b : List Int) (i : Int) : Prop := b.length ≤ 1048576 ∧ 0 ≤ i ∧ i ≤ b.length
theorem byte_ok {b : List Int} {i h : Int} (c : Cur b i) : ∃ r i' h', spec_l01Byte.f b i h = some (r, i', h') ∧ Cur b i' ∧ 0 ≤ r ∧ r ≤ 255 := by
  obtain ⟨c0, c1, c2⟩ := c
  unfold spec_l01Byte.f
  by_cases q : i < (b.length : Int)
  · rw [if_pos q, if_pos c1]
    refine ⟨_, _, _, rfl, ⟨c0, ?_, ?_⟩, ?_, ?_⟩
    · rw [wrap64_id (by omega) (by omega)]; omega
    · rw [wrap64_id (by omega) (by omega)]; omega
    · rw [i64_and255]; omega
    · rw [i64_and255]; omega
  · rw [if_neg q]
    refine ⟨_, _, _, rfl, ⟨c0, c1, c2⟩, ?_, ?_⟩
    · rw [i64_and255]; omega
    · rw [i64_and255]; omega

theorem below_ok {b : List Int} {i h n : Int} (c : Cur b i) (hn : 0 < n) : ∃ r i' h', spec_l01Below.f b i h n = some (r, i', h') ∧ Cur b i' ∧ 0 ≤ r ∧ r < n := by
  unfold spec_l01Below.f
  rw [if_neg (show ¬ n ≤ 0 by omega)]
  by_cases q : n ≤ 256
  · rw [if_pos q]
    obtain ⟨r, i', h', e, c', r0, r1⟩ := byte_ok (h := h) c
    rw [e]
    simp only [Option.bind_some]
    rw [if_neg (show ¬ n = 0 by omega), tmod_of r0]
    exact ⟨_, _, _, rfl, c', Int.emod_nonneg _ (by omega), Int.emod_lt_of_pos _ hn⟩
  · rw [if_neg q]
    obtain ⟨r1, i1, h1, e1, c1, a1, b1⟩ := byte_ok (h := h) c
    rw [e1]
    simp only [Option.bind_some]
    obtain ⟨r2, i2, h2, e2, c2, a2, b2⟩ := byte_ok (h := h1) c1
    rw [e2]
    simp only [Option.bind_some]
    obtain ⟨r3, i3, h3, e3, c3, a3, b3⟩ := byte_ok (h := h2) c2
    rw [e3]
    simp only [Option.bind_some]
    obtain ⟨r4, i4, h4, e4, c4, a4, b4⟩ := byte_ok (h := h3) c3
    rw [e4]
    simp only [Option.bind_some]
    rw [if_neg (show ¬ n = 0 by omega), wrap64_id (x := r1 * 16777216) (by omega) (by omega), wrap64_id (x := r2 * 65536) (by omega) (by omega), wrap64_id (x := r3 * 256) (by omega) (by omega), wrap64_id (x := r1 * 16777216 + r2 * 65536) (by omega) (by omega), wrap64_id (x := r1 * 16777216 + r2 * 65536 + r3 * 256) (by omega) (by omega), wrap64_id (by omega) (by omega), tmod_of (by omega)]
    exact ⟨_, _, _, rfl, c4, Int.emod_nonneg _ (by omega), Int.emod_lt_of_pos _ hn⟩
theorem below0_ok {b : List Int} {i h n : Int} (c : Cur b i) (hn : n ≤ 0) : spec_l01Below.f b i h n = some (0, i, h) := by
  unfold spec_l01Below.f
  rw [if_pos hn]

theorem once_ok {b : List Int} {i h n : Int} (c : Cur b i) (hn : 0 < n) : ∃ r i' h', spec_l01Once.f b i h n = some (r, i', h') ∧ Cur b i' := by
  unfold spec_l01Once.f
  obtain ⟨r, i', h', e, c', _, _⟩ := below_ok (h := h) c hn
  rw [e]
  exact ⟨_, _, _, rfl, c'⟩

theorem pick_ok {b : List Int} {i h : Int} {l : List Int} (c : Cur b i) (hl : 0 < l.length) : ∃ r i' h', spec_l01PickInt.f b i h l = some (r, i', h') ∧ Cur b i' ∧ r ∈ l := by
  unfold spec_l01PickInt.f
  obtain ⟨r, i', h', e, c', r0, r1⟩ := below_ok (h := h) c (show 0 < (l.length : Int) by omega)
  rw [e]
  simp only [Option.bind_some]
  rw [if_pos r0, if_pos r1]
  refine ⟨_, _, _, rfl, c', ?_⟩
  obtain ⟨n, rfl⟩ := Int.eq_ofNat_of_zero_le r0
  rw [rd_nat l n (by omega)]
  exact List.getElem_mem _

theorem new_loop (b : List Int) : ∀ (d i k : Nat) (h : Int), i + d = 4000 → d < k → ∃ h', spec_l01New.l0 k b h (i : Int) = some (b, 0, h') := by
  intro d
  induction d with
  | zero =>
    intro i k h hi hk
    obtain ⟨k, rfl⟩ : ∃ m, k = m + 1 := ⟨k - 1, by omega⟩
    simp only [spec_l01New.l0]
    by_cases q : (i : Int) < (b.length : Int)
    · rw [if_pos q, if_neg (by omega)]; exact ⟨_, rfl⟩
    · rw [if_neg q]; exact ⟨_, rfl⟩
  | succ d ih =>
    intro i k h hi hk
    obtain ⟨k, rfl⟩ : ∃ m, k = m + 1 := ⟨k - 1, by omega⟩
    simp only [spec_l01New.l0]
    by_cases q : (i : Int) < (b.length : Int)
    · rw [if_pos q, if_pos (by omega), if_pos (by omega), w64s (by omega)]
      exact ih (i + 1) k _ (by omega) (by omega)
    · rw [if_neg q]; exact ⟨_, rfl⟩
theorem new_ok (b : List Int) (k : Nat) (hb : b.length ≤ 1048576) (hk : 4000 < k) : ∃ h, spec_l01New.f k b = some (b, 0, h) ∧ Cur b 0 := by
  unfold spec_l01New.f
  obtain ⟨h, e⟩ := new_loop b 4000 0 k (wrap64 (98459 + (b.length : Int))) (by omega) (by omega)
  exact ⟨h, e, hb, by omega, by omega⟩

theorem number_ok {b : List Int} {i h : Int} (c : Cur b i) : ∃ r i' h', spec_l01Number.f b i h = some (r, i', h') ∧ Cur b i' := by
  unfold spec_l01Number.f
  obtain ⟨r, i', h', e, c', r0, r1⟩ := below_ok (h := h) c (show (0 : Int) < 4 by omega)
  rw [e]
  simp only [Option.bind_some]
  by_cases q0 : r = 0
  · rw [if_pos q0]
    obtain ⟨r2, i2, h2, e2, c2, _⟩ := pick_ok (h := h') (l := [(-1), 0, 127, 128, 16383, 16384, 1000000000, 1000000001, 9223372036854775807, (-9223372036854775808)]) c' (by simp)
    rw [e2]
    exact ⟨_, _, _, rfl, c2⟩
  · rw [if_neg q0]
    by_cases q1 : r = 1
    · rw [if_pos q1]
      obtain ⟨r2, i2, h2, e2, c2, _⟩ := below_ok (h := h') c' (show (0 : Int) < 1000000000 by omega)
      rw [e2]
      exact ⟨_, _, _, rfl, c2⟩
    · rw [if_neg q1]
      obtain ⟨r2, i2, h2, e2, c2, _⟩ := below_ok (h := h') c' (show (0 : Int) < 400 by omega)
      rw [e2]
      exact ⟨_, _, _, rfl, c2⟩

theorem drawClamp_ok (b : List Int) (k : Nat) (hb : b.length ≤ 1048576) (hk : 4000 < k) : ∃ n a c, spec_DrawClamp.f k b = some (n, a, c) := by
  unfold spec_DrawClamp.f
  obtain ⟨h0, e0, c0⟩ := new_ok b k hb hk
  rw [e0]
  simp only [Option.bind_some]
  obtain ⟨r, i1, h1, e1, c1⟩ := once_ok (h := h0) c0 (show (0 : Int) < 4 by omega)
  rw [e1]
  simp only [Option.bind_some]
  by_cases q : r = true
  · rw [if_pos q]
    obtain ⟨r2, i2, h2, e2, c2⟩ := number_ok (h := h1) c1
    rw [e2]
    simp only [Option.bind_some]
    obtain ⟨r3, i3, h3, e3, c3⟩ := number_ok (h := h2) c2
    rw [e3]
    simp only [Option.bind_some]
    obtain ⟨r4, i4, h4, e4, c4⟩ := number_ok (h := h3) c3
    rw [e4]
    exact ⟨_, _, _, rfl⟩
  · rw [if_neg q]
    obtain ⟨r2, i2, h2, e2, c2, _⟩ := below_ok (h := h1) c1 (show (0 : Int) < 40 by omega)
    rw [e2]
    simp only [Option.bind_some]
    obtain ⟨r3, i3, h3, e3, c3, _⟩ := below_ok (h := h2) c2 (show (0 : Int) < 80 by omega)
    rw [e3]
    simp only [Option.bind_some]
    obtain ⟨r4, i4, h4, e4, c4, _⟩ := below_ok (h := h3) c3 (show (0 : Int) < 30 by omega)
    rw [e4]
    exact ⟨_, _, _, rfl⟩

theorem big_eq (l : List Int) : laws_big.f l = some (decide (1048576 < l.length)) := by
  unfold laws_big.f
  congr 1
  simp
  omega

theorem FnClamped : laws_FnClamped.Pure := by
  intro l hm _ hw
  refine ⟨5000, ?_⟩
  unfold laws_FnClamped.f
  rw [big_eq]
  simp only [Option.bind_some]
  by_cases hb : 1048576 < l.length
  · rw [if_pos (by simpa using hb)]
  · rw [if_neg (by simpa using hb)]
    obtain ⟨n, a, c, e⟩ := drawClamp_ok l 5000 (by omega) (by omega)
    rw [e]
    have h7 : impl_Clamp.f 7 3 5 = some 5 := by decide
    simp only [Option.bind_some, h7]
    have e1 : impl_Clamp.f n a c = some (mx (mn n c) a) := rfl
    have e2 : impl_Clamp.f (mx (mn n c) a) a c = some (mx (mn (mx (mn n c) a) c) a) := rfl
    rw [e1]
    simp only [Option.bind_some]
    by_cases q : c < a
    · rw [if_pos q, if_pos (by unfold mx mn; repeat' split
                               all_goals omega)]
      rfl
    · rw [if_neg q, if_pos (by unfold mx mn; repeat' split
                               all_goals omega), if_pos (by unfold mx mn; repeat' split
                                                            all_goals omega), e2]
      simp only [Option.bind_some]
      rw [if_pos (by unfold mx mn; repeat' split
                     all_goals omega)]
      by_cases q1 : n < a
      · rw [if_pos q1]; rfl
      · rw [if_neg q1]
        by_cases q2 : n > c
        · rw [if_pos q2]; rfl
        · rw [if_neg q2, if_pos (by unfold mx mn; repeat' split
                                    all_goals omega)]
          rfl

end Go.Proofs.Ytohccnaellachaa.Pure
