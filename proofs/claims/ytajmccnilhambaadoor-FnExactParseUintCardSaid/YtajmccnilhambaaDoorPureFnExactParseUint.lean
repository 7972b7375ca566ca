/- What is proved: the statement FnExactParseUint, in its pure form: the program's and the reference's ParseUint agree at every string. -/
import Derived.Test.YtajmccnilhambaaDoorXP1
import Derived.Test.YtajmccnilhambaaDoorPureDG
import Derived.Test.YtajmccnilhambaaDoorPureFP
import Derived.Laws.Strings
set_option linter.unusedVariables false
set_option linter.unusedSimpArgs false
namespace Go.Proofs.YtajmccnilhambaaDoor.Pure
open Go.RowKit Go.Lib Go.Proofs.YtajmccnilhambaaDoor.XP Go.Proofs.YtajmccnilhambaaDoor.PureDG Go.Proofs.YtajmccnilhambaaDoorW.PrintWords Go.Proofs.YtajmccnilhambaaDoorW.PrintLast
theorem w64s {i : Nat} (h : i ≤ 9223372036854775806) : wrap64 ((i : Int) + 1) = ((i + 1 : Nat) : Int) := by unfold wrap64; omega
theorem len_size (s : ByteArray) : s.data.toList.length = s.size := Array.length_toList
theorem bt_eq (s : ByteArray) (i : Nat) (h : i < s.data.toList.length) : bt s (i : Int) = ((s.data.toList[i]).toNat : Int) := by
  have h2 : i < s.size := by rw [← len_size]; exact h
  have z := bt_at s (i : Int) (by simpa using h2)
  rw [← z]
  simp
  rfl
theorem fmt_eq (n : Nat) (k : Nat) (hn : n ≤ 9223372036854775807) (hk : 100 ≤ k) : spec_FormatInt.f k (n : Int) = some (PureFP.bs (itoa (n : Int))) :=
  at_rounds (g := fun k => spec_FormatInt.f k (n : Int)) (fun k => spec_FormatInt.mono _ k) hk (PureFP.FormatInt_eq (n : Int) (by omega) (by omega))
theorem bs_list (l : List UInt8) : (PureFP.bs l).toList = l := by
  rw [ByteArray.toList_eq]; rfl
open Classical in
/-- what both functions give -/
noncomputable def res (l : List UInt8) : Int × Bool := if h : ∃ v, Par l v then ((Classical.choose h : Nat), true) else (0, false)
theorem res_par {l : List UInt8} {v : Nat} (h : Par l v) : res l = ((v : Int), true) := by
  have e : ∃ v, Par l v := ⟨v, h⟩
  unfold res
  rw [dif_pos e]
  have c := Classical.choose_spec e
  have a := par_len h
  have b := par_len c
  rw [show Classical.choose e = v from b.2.2.symm.trans a.2.2]
theorem res_none {l : List UInt8} (h : ¬ ∃ v, Par l v) : res l = (0, false) := by unfold res; rw [dif_neg h]
theorem spec_end (s : ByteArray) (hs : s.size ≤ 10) (hd : ∀ c ∈ s.data.toList, dgt c) (k : Nat) (hk : 200 < k) : spec_ParseUint.l0 k s (num 0 s.data.toList : Nat) (s.size : Int) = some (res s.data.toList) := by
  have hl := len_size s
  have hn := num_ten (l := s.data.toList) (by omega) hd
  obtain ⟨k, rfl⟩ : ∃ m, k = m + 1 := ⟨k - 1, by omega⟩
  simp only [spec_ParseUint.l0]
  rw [if_neg (by omega)]
  by_cases q : num 0 s.data.toList ≤ 1000000000
  · rw [if_neg (by omega), fmt_eq _ k (by omega) (by omega)]
    simp only [Option.bind_some, bs_list, ByteArray.toList_eq]
    have hbl : ∀ l : List UInt8, (PureFP.bs l).data.toList = l := fun l => rfl
    rw [hbl]
    by_cases t : itoa ((num 0 s.data.toList : Nat) : Int) = s.data.toList
    · rw [if_pos t, res_par (v := num 0 s.data.toList) ⟨q, t⟩]
    · rw [if_neg t, res_none]
      rintro ⟨v, hv⟩
      have a := par_len hv
      apply t
      rw [a.2.2]
      exact hv.2
  · rw [if_pos (by omega), res_none]
    rintro ⟨v, hv⟩
    have a := par_len hv
    have b := hv.1
    omega
theorem spec_loop (s : ByteArray) (hs : s.size ≤ 10) : ∀ (d i k : Nat), i + d = s.size → d + 300 < k → (∀ c ∈ s.data.toList.take i, dgt c) → spec_ParseUint.l0 k s (num 0 (s.data.toList.take i) : Nat) (i : Int) = some (res s.data.toList) := by
  have hl := len_size s
  intro d
  induction d with
  | zero =>
    intro i k hi hk hd
    have e : i = s.size := by omega
    subst e
    rw [← hl, List.take_length] at hd ⊢
    rw [hl]
    exact spec_end s hs hd k (by omega)
  | succ d ih =>
    intro i k hi hk hd
    obtain ⟨k, rfl⟩ : ∃ m, k = m + 1 := ⟨k - 1, by omega⟩
    have hil : i < s.data.toList.length := by omega
    obtain ⟨c, hc⟩ : ∃ c, s.data.toList[i] = c := ⟨_, rfl⟩
    have hg : s.data.toList[i]? = some c := by rw [List.getElem?_eq_getElem hil, hc]
    have hbt := bt_eq s i hil
    rw [hc] at hbt
    have hmem : c ∈ s.data.toList := List.mem_of_getElem? hg
    have hc256 := c.toNat_lt
    have hn := num_ten (l := s.data.toList.take i) (by rw [List.length_take]; omega) hd
    have hbad : ¬ dgt c → res s.data.toList = (0, false) := by
      intro h
      rw [res_none]
      rintro ⟨v, hv⟩
      exact h ((par_len hv).2.1 c hmem)
    simp only [spec_ParseUint.l0]
    rw [if_pos (by omega), if_pos (by omega), hbt]
    by_cases z1 : (c.toNat : Int) < 48
    · rw [if_pos z1, hbad (by unfold dgt; omega)]
    · by_cases z2 : (c.toNat : Int) > 57
      · rw [if_neg z1, if_pos z2, hbad (by unfold dgt; omega)]
      · have hdc : dgt c := by unfold dgt; omega
        rw [if_neg z1, if_neg z2, w64s (by omega)]
        have e : s.data.toList.take (i + 1) = s.data.toList.take i ++ [c] := by rw [List.take_add_one, hg]; rfl
        have e2 : wrap64 (wrap64 (wrap64 (10 * ((num 0 (s.data.toList.take i) : Nat) : Int)) + wrap64 (c.toNat : Int)) - 48) = ((num 0 (s.data.toList.take (i + 1)) : Nat) : Int) := by
          rw [e, num_snoc]
          generalize num 0 (s.data.toList.take i) = n at hn
          rw [PureFP.wrap64_id (x := 10 * (n : Int)) (by omega) (by omega), PureFP.wrap64_id (x := (c.toNat : Int)) (by omega) (by omega), PureFP.wrap64_id (x := 10 * (n : Int) + (c.toNat : Int)) (by omega) (by omega), PureFP.wrap64_id (by omega) (by omega)]
          omega
        rw [e2]
        refine ih (i + 1) k (by omega) (by omega) ?_
        intro x hx
        rw [e] at hx
        rcases List.mem_append.1 hx with h | h
        · exact hd x h
        · rw [List.mem_singleton.1 h]; exact hdc
theorem spec_eq (s : ByteArray) (k : Nat) (hk : 1000 < k) : spec_ParseUint.f k s = some (res s.data.toList) := by
  have hl := len_size s
  unfold spec_ParseUint.f
  by_cases q : s.size ≤ 10
  · rw [if_neg (by omega)]
    have e := spec_loop s q s.size 0 k (by omega) (by omega) (by simp)
    have e0 : num 0 (s.data.toList.take 0) = 0 := by rw [List.take_zero]; rfl
    rw [e0, Int.natCast_zero] at e
    exact e
  · rw [if_pos (by omega), res_none]
    rintro ⟨v, hv⟩
    have := (par_len hv).1
    omega
theorem impl_eq (s : ByteArray) (hs : s.size ≤ 281474976710656) : impl_ParseUint.f s = some (res s.data.toList) := by
  unfold impl_ParseUint.f
  rw [if_pos hs]
  congr 1
  by_cases h : ∃ v, Par s.data.toList v
  · obtain ⟨v, hv⟩ := h
    have e : atoiAll s.data.toList = .ok (v : Int) := by
      rw [← hv.2]
      have := hv.1
      exact atoi_itoa (v : Int) (by omega) (by omega)
    have b := hv.1
    rw [res_par hv]
    simp only [e]
    rw [if_pos ⟨by omega, by omega, hv.2⟩]
  · rw [res_none h]
    cases e : atoiAll s.data.toList with
    | ok v =>
      simp only []
      by_cases q : 0 ≤ v ∧ v ≤ 1000000000 ∧ itoa v = s.data.toList
      · exfalso
        apply h
        refine ⟨v.toNat, by omega, ?_⟩
        rw [show ((v.toNat : Nat) : Int) = v by omega]
        exact q.2.2
      · rw [if_neg q]
    | range => rfl
    | _ => rfl
theorem FnExactParseUint : laws_FnExactParseUint.Pure := by
  intro s hs
  refine ⟨5000, ?_⟩
  unfold laws_FnExactParseUint.f
  by_cases q : (s.size : Int) > 1048576
  · rw [if_pos q]
  · rw [if_neg q, spec_eq s 5000 (by omega), impl_eq s (by omega)]
    simp
end Go.Proofs.YtajmccnilhambaaDoor.Pure
