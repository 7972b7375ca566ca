/- What is proved: the printed spec.FormatInt is the decimal numeral of the kit's library, at every int. -/
import Derived.Test.YtajmccnilhambaaDoorXP1
import Derived.Lib.ItoaNum
namespace Go.Proofs.YtajmccnilhambaaDoor.PureFP
open Go.RowKit Go.Lib Go.Proofs.YtajmccnilhambaaDoor.XP Go.Proofs.YtajmccnilhambaaDoorW.PrintWords Go.Proofs.YtajmccnilhambaaDoorW.PrintLast
set_option linter.unusedVariables false
set_option linter.unusedSimpArgs false
theorem wrap64_id {x : Int} (h1 : -9223372036854775808 ≤ x) (h2 : x ≤ 9223372036854775807) : wrap64 x = x := by unfold wrap64; omega
theorem wf_bd {x : Int} (h : (Lit.int .i64 x).wf = true) : -9223372036854775808 ≤ x ∧ x ≤ 9223372036854775807 := by
  simp only [Lit.wf, IntKind.min, IntKind.max, IntKind.signed, IntKind.bits, Bool.and_eq_true, decide_eq_true_eq, if_true] at h
  omega
def hexv (x : Int) : Int := if x < 10 then 48 + x else 87 + x
theorem figure_eq (x : Int) (h0 : 0 ≤ x) (h1 : x < 16) : spec_l01Figure.f x = some (hexv x) := by
  unfold spec_l01Figure.f hexv
  by_cases q : x < 10
  · rw [if_pos q, if_pos q, wrap64_id (by omega) (by omega)]; congr 1; omega
  · rw [if_neg q, if_neg q, wrap64_id (x := 97 + x) (by omega) (by omega), wrap64_id (by omega) (by omega)]; congr 1; omega
def bs (l : List UInt8) : ByteArray := ⟨l.toArray⟩
theorem bs_app (a b : List UInt8) : bs a ++ bs b = bs (a ++ b) := by
  apply ByteArray.ext
  simp [bs]
theorem bs_size (a : List UInt8) : (bs a).size = a.length := by simp [bs, ByteArray.size]
theorem one_ok : ((List.range 10).all fun d => decide ((strOfNums [((48 + d : Nat) : Int)]).data = (bs [UInt8.ofNat (48 + d)]).data)) = true := by decide +kernel
theorem one_eq (d : Nat) (h : d < 10) : strOfNums [48 + (d : Int)] = bs [UInt8.ofNat (48 + d)] := by
  have t := of_decide_eq_true (List.all_eq_true.1 one_ok d (List.mem_range.2 h))
  apply ByteArray.ext
  rw [← t]
  congr 2
theorem tm_td (n : Int) : (0 ≤ n ∧ Int.tmod n 10 = n % 10 ∧ Int.tdiv n 10 = n / 10) ∨ (n < 0 ∧ Int.tmod n 10 = -((-n) % 10) ∧ Int.tdiv n 10 = -((-n) / 10)) := by
  by_cases h : 0 ≤ n
  · exact .inl ⟨h, Int.tmod_eq_emod_of_nonneg h, Int.tdiv_eq_ediv_of_nonneg h⟩
  · refine .inr ⟨by omega, ?_, ?_⟩
    · rw [← Int.tmod_eq_emod_of_nonneg (show 0 ≤ -n by omega), Int.neg_tmod, Int.neg_neg]
    · rw [← Int.tdiv_eq_ediv_of_nonneg (show 0 ≤ -n by omega), Int.neg_tdiv, Int.neg_neg]
theorem l0_eq (b : Bool) : ∀ (m : Nat) (n : Int) (s : List UInt8) (k : Nat), n ≠ 0 → n.natAbs < 10 ^ m → -9223372036854775808 ≤ n → n ≤ 9223372036854775807 → s.length + m ≤ 1000 → m + 1 < k → spec_FormatInt.l0 k n b (bs s) = some (bs (if b = true then 45 :: (decDigits n.natAbs ++ s) else decDigits n.natAbs ++ s)) := by
  intro m
  induction m with
  | zero => intro n s k hn hu; simp at hu; omega
  | succ m ih =>
    intro n s k hn hu h0 h1 hs hk
    obtain ⟨k, rfl⟩ : ∃ j, k = j + 1 := ⟨k - 1, by omega⟩
    rw [Nat.pow_succ] at hu
    have td := tm_td n
    simp only [spec_FormatInt.l0]
    rw [if_neg hn]
    generalize Int.tmod n 10 = t at td ⊢
    generalize Int.tdiv n 10 = q at td ⊢
    have key : ∀ d : Nat, d = n.natAbs % 10 → (some (strOfNums [48 + (d : Int)])).bind (fun y => if y.size + (bs s).size ≤ 9223372036854775807 then spec_FormatInt.l0 k (wrap64 q) b (y ++ bs s) else none) = some (bs (if b = true then 45 :: (decDigits n.natAbs ++ s) else decDigits n.natAbs ++ s)) := by
      intro d hd
      rw [one_eq d (by omega), Option.bind_some, bs_size, bs_size, if_pos (by simp; omega), bs_app, wrap64_id (by omega) (by omega)]
      by_cases z : n.natAbs < 10
      · obtain rfl : q = 0 := by omega
        obtain ⟨k, rfl⟩ : ∃ j, k = j + 1 := ⟨k - 1, by omega⟩
        simp only [spec_FormatInt.l0]
        rw [if_pos trivial, decDigits, dif_pos z, show n.natAbs = d by omega]
        cases b with
        | true =>
          rw [if_pos rfl, bs_size, if_pos (by simp; omega)]
          rw [show (⟨#[45]⟩ : ByteArray) = bs [45] from rfl, bs_app]
          rfl
        | false => rw [if_neg (by simp)]; rfl
      · rw [ih q ([UInt8.ofNat (48 + d)] ++ s) k (by omega) (by omega) (by omega) (by omega) (by simp; omega) (by omega)]
        have e : decDigits n.natAbs = decDigits q.natAbs ++ [UInt8.ofNat (48 + d)] := by
          rw [decDigits, dif_neg z, show q.natAbs = n.natAbs / 10 by omega, hd]
        rw [e]
        simp
    by_cases p : t < 0
    · rw [if_pos p, wrap64_id (by omega) (by omega), figure_eq (-t) (by omega) (by omega)]
      have z := key (-t).toNat (by omega)
      rw [show (((-t).toNat : Nat) : Int) = -t by omega] at z
      simp only [Option.bind_some] at z ⊢
      rw [show hexv (-t) = 48 + -t by unfold hexv; rw [if_pos (by omega)]]
      exact z
    · rw [if_neg p, figure_eq t (by omega) (by omega)]
      have z := key t.toNat (by omega)
      rw [show ((t.toNat : Nat) : Int) = t by omega] at z
      simp only [Option.bind_some] at z ⊢
      rw [show hexv t = 48 + t by unfold hexv; rw [if_pos (by omega)]]
      exact z
theorem FormatInt_eq (n : Int) (h0 : -9223372036854775808 ≤ n) (h1 : n ≤ 9223372036854775807) : spec_FormatInt.f 100 n = some (bs (itoa n)) := by
  unfold spec_FormatInt.f itoa
  by_cases z : n = 0
  · subst z
    rw [if_pos rfl, if_neg (by omega), decDigits, dif_pos (by simp)]
    rfl
  · rw [if_neg z]
    have e := l0_eq (decide (n < 0)) 20 n [] 100 z (by omega) h0 h1 (by simp) (by omega)
    rw [show (⟨#[]⟩ : ByteArray) = bs [] from rfl, e]
    by_cases p : n < 0
    · rw [if_pos (decide_eq_true p), if_pos p]; simp
    · rw [if_neg (by simpa using p), if_neg p, show n.natAbs = n.toNat by omega]; simp
end Go.Proofs.YtajmccnilhambaaDoor.PureFP
