/- What is proved: the statement FnExactDecodeHex, in its pure form, over numbers and lists: the program's and the reference's DecodeHex agree at every string (no conditions). -/
import Derived.Test.YtajmccnilhambaaX1
import Derived.Test.YtajmccnilhambaaModel
set_option linter.unusedVariables false
set_option linter.unusedSimpArgs false
namespace Go.Proofs.Ytajmccnilhambaa.Pure
open Go.RowKit Go.Proofs.Ytajmccnilhambaa.X Go.Proofs.Ytajmccnilhambaa.M Go.Proofs.YtajmccnilhambaaW.PrintWords Go.Proofs.YtajmccnilhambaaW.PrintLast
theorem rd_nat (l : List Int) (i : Nat) (h : i < l.length) : rd l (i : Int) = l[i] := by unfold rd; simp [h]
theorem drop_rd (l : List Int) (i : Nat) (h : i < l.length) : l.drop i = rd l (i : Int) :: l.drop (i + 1) := by
  rw [rd_nat l i h]; exact List.drop_eq_getElem_cons h
theorem w64s {i : Nat} (h : i ≤ 9223372036854775806) : wrap64 ((i : Int) + 1) = ((i + 1 : Nat) : Int) := by rw [wrap64_id (by omega) (by omega)]; omega
theorem w64p {i : Nat} (h : i ≤ 9223372036854775806) (h0 : 0 < i) : wrap64 ((i : Int) - 1) = ((i - 1 : Nat) : Int) := by rw [wrap64_id (by omega) (by omega)]; omega

def stdG (w h r : Int) (i : Nat) : Int := stdP w r ((i / (cnt w h).toNat : Nat) : Int) ((i % (cnt w h).toNat : Nat) : Int)
def stdT (w h r : Int) : List Int := (List.range ((cnt w h).toNat * (cnt w h).toNat)).map (stdG w h r)
theorem stdT_len (w h r : Int) : (stdT w h r).length = (cnt w h).toNat * (cnt w h).toNat := by simp [stdT]
theorem cnt_sq (w h : Int) : (cnt w h).toNat * (cnt w h).toNat ≤ 256 ∧ (((cnt w h).toNat * (cnt w h).toNat : Nat) : Int) = cnt w h * cnt w h := by
  have b := cnt_bd w h
  obtain ⟨n, hn⟩ : ∃ n : Nat, cnt w h = n := ⟨(cnt w h).toNat, by omega⟩
  rw [hn] at b ⊢
  simp only [Int.toNat_natCast]
  refine ⟨?_, by simp⟩
  have : n ≤ 16 := by omega
  exact Nat.mul_le_mul this this

def hval (c : Int) : Int := if 48 ≤ c ∧ c ≤ 57 then c - 48 else if 97 ≤ c ∧ c ≤ 102 then c - 87 else -1
theorem hval_bd (c : Int) : -1 ≤ hval c ∧ hval c ≤ 15 := by
  unfold hval
  split
  · omega
  · split <;> omega
theorem sval_eq (c : Int) (k : Nat) (hk : 0 < k) (h0 : 0 ≤ c) (h1 : c ≤ 255) : spec_l01Value.f k c = some (hval c) := by
  obtain ⟨k, rfl⟩ : ∃ m, k = m + 1 := ⟨k - 1, by omega⟩
  unfold spec_l01Value.f hval
  simp only [spec_l01Value.j0]
  by_cases a : c ≥ 48
  · rw [if_pos a]
    by_cases b : c ≤ 57
    · rw [if_pos (decide_eq_true b), if_pos ⟨a, b⟩, wrap64_id (x := c) (by omega) (by omega), wrap64_id (by omega) (by omega)]
    · rw [if_neg (by simpa using b), if_neg (show ¬ (48 ≤ c ∧ c ≤ 57) by omega)]
      by_cases d : c ≥ 97
      · rw [if_pos d]
        by_cases e : c ≤ 102
        · rw [if_pos e, if_pos ⟨d, e⟩, wrap64_id (x := c) (by omega) (by omega), wrap64_id (x := c - 97) (by omega) (by omega), wrap64_id (by omega) (by omega)]
          congr 1; omega
        · rw [if_neg e, if_neg (show ¬ (97 ≤ c ∧ c ≤ 102) by omega)]
      · rw [if_neg d, if_neg (show ¬ (97 ≤ c ∧ c ≤ 102) by omega)]
  · rw [if_neg a, if_neg (by simp), if_neg (show ¬ c ≥ 97 by omega), if_neg (show ¬ (48 ≤ c ∧ c ≤ 57) by omega), if_neg (show ¬ (97 ≤ c ∧ c ≤ 102) by omega)]
theorem ival_all : ((List.range 256).all fun (j : Nat) => decide (strings_IndexByte.f (⟨#[48, 49, 50, 51, 52, 53, 54, 55, 56, 57, 97, 98, 99, 100, 101, 102]⟩ : ByteArray) (j : Int) = some (hval (j : Int)))) = true := by decide +kernel
theorem ival_eq (c : Int) (h0 : 0 ≤ c) (h1 : c ≤ 255) : strings_IndexByte.f (⟨#[48, 49, 50, 51, 52, 53, 54, 55, 56, 57, 97, 98, 99, 100, 101, 102]⟩ : ByteArray) c = some (hval c) := by
  have t := List.all_eq_true.1 ival_all c.toNat (List.mem_range.2 (by omega))
  have t := of_decide_eq_true t
  rwa [show ((c.toNat : Nat) : Int) = c by omega] at t
theorem both (s : ByteArray) (hs : s.size ≤ 40000) : ∀ (d i k : Nat) (x : List Int), i + 2 * d = s.size → d + 1 < k → x.length ≤ i → ∃ r, spec_DecodeHex.l0 k s x (i : Int) = some r ∧ impl_DecodeHex.l0 k s x (i : Int) = some r := by
  intro d
  induction d with
  | zero =>
    intro i k x hi hk hx
    obtain ⟨k, rfl⟩ : ∃ m, k = m + 1 := ⟨k - 1, by omega⟩
    simp only [spec_DecodeHex.l0, impl_DecodeHex.l0]
    rw [if_neg (by omega), if_neg (by omega)]
    exact ⟨_, rfl, rfl⟩
  | succ d ih =>
    intro i k x hi hk hx
    obtain ⟨k, rfl⟩ : ∃ m, k = m + 1 := ⟨k - 1, by omega⟩
    have b1 := bt_range s (i : Int)
    have b2 := bt_range s ((i + 1 : Nat) : Int)
    have w2 : wrap64 ((i : Int) + 2) = ((i + 2 : Nat) : Int) := by rw [wrap64_id (by omega) (by omega)]; omega
    simp only [spec_DecodeHex.l0, impl_DecodeHex.l0]
    rw [w64s (by omega), if_pos (by omega), if_pos (by omega), if_pos (by omega), if_pos (by omega), sval_eq _ k (by omega) b1.1 b1.2, ival_eq _ b1.1 b1.2]
    simp only [Option.bind_some]
    rw [if_pos (by omega), if_pos (by omega), if_pos (by omega), if_pos (by omega), sval_eq _ k (by omega) b2.1 b2.2, ival_eq _ b2.1 b2.2]
    simp only [Option.bind_some]
    generalize hval (bt s (i : Int)) = p
    generalize hval (bt s ((i + 1 : Nat) : Int)) = q
    by_cases hp : p < 0
    · rw [if_pos hp, if_pos hp]; exact ⟨_, rfl, rfl⟩
    · rw [if_neg hp, if_neg hp]
      by_cases hq : q < 0
      · rw [if_pos hq, if_pos hq]; exact ⟨_, rfl, rfl⟩
      · rw [if_neg hq, if_neg hq, if_pos (by omega), if_pos (by omega), w2]
        exact ih (i + 2) k _ (by omega) (by omega) (by simp; omega)
theorem FnExactDecodeHex : laws_FnExactDecodeHex.Pure := by
  intro s _
  obtain ⟨k, hk⟩ : ∃ k : Nat, 100000 ≤ k := ⟨_, Nat.le_refl _⟩
  refine ⟨k + 1, ?_⟩
  unfold laws_FnExactDecodeHex.f
  by_cases h : (s.size : Int) > 1048576
  · rw [if_pos h]
  · rw [if_neg h]
    have key : ∃ r, spec_DecodeHex.f (k + 1) s = some r ∧ impl_DecodeHex.f (k + 1) s = some r := by
      unfold spec_DecodeHex.f impl_DecodeHex.f
      simp only [spec_DecodeHex.j0, impl_DecodeHex.j0]
      by_cases c : (s.size : Int) > 40000
      · rw [if_pos c, if_pos trivial, if_pos (decide_eq_true c), if_pos trivial]
        split <;> exact ⟨_, rfl, rfl⟩
      · rw [if_neg c, if_neg (show ¬ (decide ((s.size : Int) > 40000)) = true by simpa using c), if_pos trivial]
        by_cases e : (s.size : Int) % 2 = 0
        · rw [if_neg (by simp [e]), if_pos e, wrap64_id (by omega) (by omega), if_pos (by omega), if_pos (by omega)]
          obtain ⟨r, h1, h2⟩ := both s (by omega) (s.size / 2) 0 k [] (by omega) (by omega) (by simp)
          rw [show ((0 : Nat) : Int) = 0 from rfl] at h1 h2
          exact ⟨r, h1, h2⟩
        · rw [if_pos (by simp [e]), if_neg e]
          exact ⟨_, rfl, rfl⟩
    obtain ⟨r, h1, h2⟩ := key
    rw [h1, h2]
    simp

end Go.Proofs.Ytajmccnilhambaa.Pure
