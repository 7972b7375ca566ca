/- What is proved: the statement FnExactEncodeHex, in its pure form, over numbers and lists: the program's and the reference's EncodeHex agree at every string (no conditions). -/
import Derived.Test.YtcombeiiagjjiabXE1
import Derived.Test.YtcombeiiagjjiabModel
set_option linter.unusedVariables false
set_option linter.unusedSimpArgs false
namespace Go.Proofs.Ytcombeiiagjjiab.Pure
open Go.RowKit Go.Proofs.Ytcombeiiagjjiab.XE Go.Proofs.Ytcombeiiagjjiab.M Go.Proofs.YtcombeiiagjjiabW.PrintWords Go.Proofs.YtcombeiiagjjiabW.PrintLast
theorem rd_nat (l : List Int) (i : Nat) (h : i < l.length) : rd l (i : Int) = l[i] := by unfold rd; simp [h]
theorem drop_rd (l : List Int) (i : Nat) (h : i < l.length) : l.drop i = rd l (i : Int) :: l.drop (i + 1) := by
  rw [rd_nat l i h]; exact List.drop_eq_getElem_cons h
theorem w64s {i : Nat} (h : i ≤ 9223372036854775806) : wrap64 ((i : Int) + 1) = ((i + 1 : Nat) : Int) := by rw [wrap64_id (by omega) (by omega)]; omega
theorem w64p {i : Nat} (h : i ≤ 9223372036854775806) (h0 : 0 < i) : wrap64 ((i : Int) - 1) = ((i - 1 : Nat) : Int) := by rw [wrap64_id (by omega) (by omega)]; omega

def hexv (x : Int) : Int := if x < 10 then 48 + x else 87 + x
theorem figure_eq (x : Int) (h0 : 0 ≤ x) (h1 : x < 16) : spec_l01Figure.f x = some (hexv x) := by
  unfold spec_l01Figure.f hexv
  by_cases q : x < 10
  · rw [if_pos q, if_pos q, wrap64_id (by omega) (by omega)]; congr 1; omega
  · rw [if_neg q, if_neg q, wrap64_id (x := 97 + x) (by omega) (by omega), wrap64_id (by omega) (by omega)]; congr 1; omega
def encFrom (s : ByteArray) (i d : Nat) : List Int := (List.range' i d).flatMap fun (j : Nat) => [hexv (bt s (j : Int) / 16), hexv (bt s (j : Int) % 16)]
theorem encFrom_succ (s : ByteArray) (i d : Nat) : encFrom s i (d + 1) = [hexv (bt s (i : Int) / 16), hexv (bt s (i : Int) % 16)] ++ encFrom s (i + 1) d := by
  unfold encFrom; rw [List.range'_succ, List.flatMap_cons]
theorem encFrom_len (s : ByteArray) (i d : Nat) : (encFrom s i d).length = 2 * d := by
  induction d generalizing i with
  | zero => rfl
  | succ d ih => rw [encFrom_succ, List.length_append, ih]; simp; omega
theorem spec_EncodeHex_loop (s : ByteArray) (hs : s.size ≤ 1048576) : ∀ (d i k : Nat) (x : List Int), i + d = s.size → d < k → x.length ≤ 2 * i → spec_EncodeHex.l0 k s x (i : Int) = some (strOfNums (x ++ encFrom s i d), true) := by
  intro d
  induction d with
  | zero =>
    intro i k x hi hk hx
    obtain ⟨k, rfl⟩ : ∃ m, k = m + 1 := ⟨k - 1, by omega⟩
    simp only [spec_EncodeHex.l0]
    rw [if_neg (by omega)]
    simp [encFrom]
  | succ d ih =>
    intro i k x hi hk hx
    obtain ⟨k, rfl⟩ : ∃ m, k = m + 1 := ⟨k - 1, by omega⟩
    simp only [spec_EncodeHex.l0]
    have b := bt_range s (i : Int)
    rw [if_pos (by omega), if_pos (by omega), wrap64_id (x := bt s (i : Int)) (by omega) (by omega), tdiv_of b.1, tmod_of b.1, wrap64_id (by omega) (by omega), figure_eq _ (by omega) (by omega), encFrom_succ]
    simp only [Option.bind_some]
    rw [figure_eq _ (by omega) (by omega)]
    simp only [Option.bind_some]
    rw [if_pos (by simp; omega), w64s (by omega), ih (i + 1) k _ (by omega) (by omega) (by simp; omega)]
    simp
theorem spec_EncodeHex_eq (s : ByteArray) (k : Nat) (hs : s.size ≤ 1048576) (hk : 1048600 < k) : spec_EncodeHex.f k s = some (if 20000 < s.size then (⟨#[]⟩, false) else (strOfNums (encFrom s 0 s.size), true)) := by
  unfold spec_EncodeHex.f
  by_cases q : 20000 < s.size
  · rw [if_pos (by omega), if_pos q]
  · have e := spec_EncodeHex_loop s hs s.size 0 k [] (by omega) (by omega) (by simp)
    rw [if_neg (by omega), if_neg q, show (0 : Int) = ((0 : Nat) : Int) from rfl, e]
    rfl

theorem digits_bt (x : Int) (h0 : 0 ≤ x) (h1 : x < 16) : bt (⟨#[48, 49, 50, 51, 52, 53, 54, 55, 56, 57, 97, 98, 99, 100, 101, 102]⟩ : ByteArray) x = hexv x := by
  have h : x = 0 ∨ x = 1 ∨ x = 2 ∨ x = 3 ∨ x = 4 ∨ x = 5 ∨ x = 6 ∨ x = 7 ∨ x = 8 ∨ x = 9 ∨ x = 10 ∨ x = 11 ∨ x = 12 ∨ x = 13 ∨ x = 14 ∨ x = 15 := by omega
  rcases h with rfl | rfl | rfl | rfl | rfl | rfl | rfl | rfl | rfl | rfl | rfl | rfl | rfl | rfl | rfl | rfl <;> decide
theorem impl_EncodeHex_loop (s : ByteArray) (hs : s.size ≤ 1048576) : ∀ (d i k : Nat) (x : List Int), i + d = s.size → d < k → x.length ≤ 2 * i → impl_EncodeHex.l0 k s x (i : Int) = some (strOfNums (x ++ encFrom s i d), true) := by
  intro d
  induction d with
  | zero =>
    intro i k x hi hk hx
    obtain ⟨k, rfl⟩ : ∃ m, k = m + 1 := ⟨k - 1, by omega⟩
    simp only [impl_EncodeHex.l0]
    rw [if_neg (by omega)]
    simp [encFrom]
  | succ d ih =>
    intro i k x hi hk hx
    obtain ⟨k, rfl⟩ : ∃ m, k = m + 1 := ⟨k - 1, by omega⟩
    simp only [impl_EncodeHex.l0]
    have b := bt_range s (i : Int)
    have e15 : Go.bits .and .u8 (bt s (i : Int)) 15 = bt s (i : Int) % 16 := u8_and15 _ (by omega) (by omega)
    rw [if_pos (by omega), if_pos (by omega), e15, if_pos (by omega), if_pos (by omega), if_pos (by omega), if_pos (by omega), digits_bt _ (by omega) (by omega), digits_bt _ (by omega) (by omega), encFrom_succ]
    simp only [Option.bind_some]
    rw [if_pos (by simp; omega), w64s (by omega), ih (i + 1) k _ (by omega) (by omega) (by simp; omega)]
    simp
theorem impl_EncodeHex_eq (s : ByteArray) (k : Nat) (hs : s.size ≤ 1048576) (hk : 1048600 < k) : impl_EncodeHex.f k s = some (if 20000 < s.size then (⟨#[]⟩, false) else (strOfNums (encFrom s 0 s.size), true)) := by
  unfold impl_EncodeHex.f
  by_cases q : 20000 < s.size
  · rw [if_pos (by omega), if_pos q]
  · have e := impl_EncodeHex_loop s hs s.size 0 k [] (by omega) (by omega) (by simp)
    rw [if_neg (by omega), if_neg q, wrap64_id (by omega) (by omega), if_pos (by omega), if_pos (by omega), show (0 : Int) = ((0 : Nat) : Int) from rfl, e]
    rfl

theorem FnExactEncodeHex : laws_FnExactEncodeHex.Pure := by
  intro s _
  obtain ⟨k, hk⟩ : ∃ k : Nat, 3000000 ≤ k := ⟨_, Nat.le_refl _⟩
  refine ⟨k, ?_⟩
  unfold laws_FnExactEncodeHex.f
  by_cases h : (s.size : Int) > 1048576
  · rw [if_pos h]
  · rw [if_neg h, spec_EncodeHex_eq s k (by omega) (by omega), impl_EncodeHex_eq s k (by omega) (by omega)]
    simp

end Go.Proofs.Ytcombeiiagjjiab.Pure
