/- What is proved: laws of decimal numerals: which texts are the numeral of a number up to ten digits. -/
import Derived.Lib.ItoaNum
import Derived.Lib.AtoiAllCases
set_option linter.unusedVariables false
set_option linter.unusedSimpArgs false
namespace Go.Proofs.YtajmccnilhambaaDoor.PureDG
open Go.Lib
/-- a digit -/
def dgt (c : UInt8) : Prop := 48 ≤ c.toNat ∧ c.toNat ≤ 57
/-- the number that digits spell behind u -/
def num : Nat → List UInt8 → Nat
  | u, [] => u
  | u, c :: r => num (10 * u + (c.toNat - 48)) r
theorem num_app : ∀ (a b : List UInt8) (u : Nat), num u (a ++ b) = num (num u a) b
  | [], _, _ => rfl
  | c :: a, b, u => num_app a b _
theorem num_snoc (a : List UInt8) (c : UInt8) (u : Nat) : num u (a ++ [c]) = 10 * num u a + (c.toNat - 48) := by rw [num_app]; rfl
theorem num_lt : ∀ (l : List UInt8) (u : Nat), (∀ c ∈ l, dgt c) → num u l < (u + 1) * 10 ^ l.length
  | [], u, _ => by
    show u < (u + 1) * 10 ^ 0
    rw [Nat.pow_zero]
    omega
  | c :: r, u, h => by
    have hc := h c (by simp)
    have ih := num_lt r (10 * u + (c.toNat - 48)) (fun x hx => h x (List.mem_cons_of_mem _ hx))
    have e : (10 * u + (c.toNat - 48) + 1) * 10 ^ r.length ≤ (u + 1) * 10 ^ (c :: r).length := by
      have z : (c :: r).length = r.length + 1 := rfl
      rw [z, Nat.pow_succ]
      generalize 10 ^ r.length = q
      have y : 10 * u + (c.toNat - 48) + 1 ≤ (u + 1) * 10 := by unfold dgt at hc; omega
      have y2 := Nat.mul_le_mul_right q y
      rw [Nat.mul_assoc, Nat.mul_comm 10 q] at y2
      exact y2
    show num (10 * u + (c.toNat - 48)) r < _
    exact Nat.lt_of_lt_of_le ih e
theorem dg_toNat (d : Nat) (hd : d < 10) : (UInt8.ofNat (48 + d)).toNat = 48 + d := by rw [UInt8.toNat_ofNat']; omega
theorem dec_dgt (u : Nat) : ∀ c ∈ decDigits u, dgt c := by
  induction u using Nat.strongRecOn with
  | _ u ih =>
    intro c hc
    rw [decDigits] at hc
    by_cases h : u < 10
    · rw [dif_pos h] at hc
      rw [List.mem_singleton.1 hc]
      unfold dgt
      rw [dg_toNat u h]; omega
    · rw [dif_neg h] at hc
      rcases List.mem_append.1 hc with hc | hc
      · exact ih (u / 10) (by omega) c hc
      · rw [List.mem_singleton.1 hc]
        unfold dgt
        rw [dg_toNat (u % 10) (by omega)]; omega
theorem num_dec (u : Nat) : num 0 (decDigits u) = u := by
  induction u using Nat.strongRecOn with
  | _ u ih =>
    rw [decDigits]
    by_cases h : u < 10
    · rw [dif_pos h]
      show 10 * 0 + ((UInt8.ofNat (48 + u)).toNat - 48) = u
      rw [dg_toNat u h]
      omega
    · rw [dif_neg h, num_snoc, ih (u / 10) (by omega), dg_toNat (u % 10) (by omega)]
      omega
theorem dec_len (k : Nat) : ∀ u, u < 10 ^ (k + 1) → (decDigits u).length ≤ k + 1 := by
  induction k with
  | zero => intro u h; rw [decDigits, dif_pos (by simpa using h)]; simp
  | succ k ih =>
    intro u h
    by_cases q : u < 10
    · rw [decDigits, dif_pos q]; simp
    · have e := ih (u / 10) (by rw [Nat.pow_succ] at h; omega)
      rw [decDigits, dif_neg q, List.length_append]
      simp
      omega
theorem itoa_pos (n : Nat) : itoa (n : Int) = decDigits n := by unfold itoa; rw [if_neg (by omega)]; rfl
/-- what ParseUint reads: the number whose numeral the text is -/
def Par (l : List UInt8) (v : Nat) : Prop := v ≤ 1000000000 ∧ itoa (v : Int) = l
theorem par_len {l : List UInt8} {v : Nat} (h : Par l v) : l.length ≤ 10 ∧ (∀ c ∈ l, dgt c) ∧ num 0 l = v := by
  obtain ⟨h1, rfl⟩ := h
  rw [itoa_pos]
  exact ⟨dec_len 9 v (by omega), dec_dgt v, num_dec v⟩
theorem num_ten {l : List UInt8} (h : l.length ≤ 10) (hd : ∀ c ∈ l, dgt c) : num 0 l < 10000000000 := by
  have := num_lt l 0 hd
  have p : 10 ^ l.length ≤ 10 ^ 10 := Nat.pow_le_pow_right (by omega) h
  omega
theorem parse_digits (u : Nat) : u < 18446744073709551616 → ∀ r, parseUint10 0 (decDigits u ++ r) = parseUint10 u r := by
  induction u using Nat.strongRecOn with
  | _ u ih =>
    intro hu r
    have dig : ∀ d : Nat, d < 10 → (UInt8.ofNat (48 + d)).toNat = 48 + d := fun d hd => by rw [UInt8.toNat_ofNat']; omega
    by_cases h : u < 10
    · rw [decDigits, dif_pos h]
      simp only [List.cons_append, List.nil_append, parseUint10]
      rw [dig u h, if_pos (by omega), if_neg (by omega), if_neg (by omega)]
      congr 1
      omega
    · rw [decDigits, dif_neg h, List.append_assoc, ih (u / 10) (by omega) (by omega)]
      simp only [List.cons_append, List.nil_append, parseUint10]
      rw [dig (u % 10) (by omega), if_pos (by omega), if_neg (by omega), if_neg (by omega)]
      congr 1
      omega
theorem digits_first (u : Nat) : ∃ c r, decDigits u = c :: r ∧ 48 ≤ c.toNat := by
  induction u using Nat.strongRecOn with
  | _ u ih =>
    by_cases h : u < 10
    · exact ⟨_, [], by rw [decDigits, dif_pos h], by rw [UInt8.toNat_ofNat']; omega⟩
    · obtain ⟨c, r, e, hc⟩ := ih (u / 10) (by omega)
      exact ⟨c, r ++ [UInt8.ofNat (48 + u % 10)], by rw [decDigits, dif_neg h, e]; rfl, hc⟩
theorem mag (u : Nat) (hu : u < 18446744073709551616) : parseMag (decDigits u) = .ok u := by
  obtain ⟨c, r, e, _⟩ := digits_first u
  have z := parse_digits u hu []
  rw [List.append_nil] at z
  unfold parseMag
  rw [if_neg (by rw [e]; simp), z]
  rfl
theorem atoi_itoa (n : Int) (h0 : -9223372036854775808 ≤ n) (h1 : n ≤ 9223372036854775807) : atoiAll (itoa n) = .ok n := by
  unfold itoa
  by_cases p : n < 0
  · rw [if_pos p, atoiAll_minus, mag _ (by omega)]
    simp only [signed]
    rw [if_neg (by omega)]
    congr 1
    omega
  · rw [if_neg p]
    obtain ⟨c, r, e, hc⟩ := digits_first n.toNat
    have m := mag n.toNat (by omega)
    rw [e] at m ⊢
    rw [atoiAll_plain c r (by omega) (by omega), m]
    simp only [signless]
    rw [if_neg (by omega)]
    congr 1
    omega
theorem itoa_ne (n : Int) : itoa n ≠ [] := by
  unfold itoa
  split
  · simp
  · obtain ⟨c, r, e, hc⟩ := digits_first n.toNat
    rw [e]; simp
end Go.Proofs.YtajmccnilhambaaDoor.PureDG
