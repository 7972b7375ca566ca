/- What is proved: the statement FnExactStandardTable, in its pure form, over numbers and lists: the program's and the reference's StandardTable agree for all arguments, and the result is the caller's own (no conditions). -/
import Derived.Test.YtohccnaellachabX33
import Derived.Test.YtohccnaellachabModel
set_option linter.unusedVariables false
set_option linter.unusedSimpArgs false
namespace Go.Proofs.Ytohccnaellachab.Pure
open Go.RowKit Go.Proofs.Ytohccnaellachab.X Go.Proofs.Ytohccnaellachab.M Go.Proofs.YtohccnaellachabW.PrintWords Go.Proofs.YtohccnaellachabW.PrintLast
theorem rd_nat (l : List Int) (i : Nat) (h : i < l.length) : rd l (i : Int) = l[i] := by unfold rd; simp [h]
theorem drop_rd (l : List Int) (i : Nat) (h : i < l.length) : l.drop i = rd l (i : Int) :: l.drop (i + 1) := by
  rw [rd_nat l i h]; exact List.drop_eq_getElem_cons h
theorem w64s {i : Nat} (h : i ≤ 9223372036854775806) : wrap64 ((i : Int) + 1) = ((i + 1 : Nat) : Int) := by rw [wrap64_id (by omega) (by omega)]; omega
theorem w64p {i : Nat} (h : i ≤ 9223372036854775806) (h0 : 0 < i) : wrap64 ((i : Int) - 1) = ((i - 1 : Nat) : Int) := by rw [wrap64_id (by omega) (by omega)]; omega

theorem impl_inside_eq (a b c : Int) : impl_inside.f a b c = some (inR a b c) := by
  unfold impl_inside.f inR
  by_cases h : b ≤ a <;> simp [h]

theorem impl_GridOk_eq (w h : Int) : impl_GridOk.f w h = some (gok w h) := by
  unfold impl_GridOk.f gok
  simp only [impl_inside_eq, Option.bind_some]
  cases inR w 1 4 <;> rfl

theorem impl_NodeCount_eq (w h : Int) : impl_NodeCount.f w h = some (cnt w h) := by
  unfold impl_NodeCount.f
  simp only [impl_GridOk_eq, Option.bind_some]
  by_cases g : gok w h = true
  · have b := cnt_bd w h
    rw [if_pos g, cnt_ok g]
    rw [cnt_ok g] at b
    rw [wrap64_id (by omega) (by omega)]
  · rw [if_neg g, cnt_no (by simpa using g)]

theorem impl_isNode_eq (w h n : Int) : impl_isNode.f w h n = some (nd w h n) := by
  have b := cnt_bd w h
  unfold impl_isNode.f nd
  simp only [impl_NodeCount_eq, impl_inside_eq, Option.bind_some]
  rw [wrap64_id (by omega) (by omega)]

theorem spec_l01In_eq (a b c : Int) : spec_l01In.f a b c = some (inR a b c) := by
  unfold spec_l01In.f inR
  by_cases h : b ≤ a <;> simp [h]

theorem spec_GridOk_eq (w h : Int) : spec_GridOk.f w h = some (gok w h) := by
  unfold spec_GridOk.f gok
  simp only [spec_l01In_eq, Option.bind_some]
  cases inR w 1 4 <;> rfl

theorem spec_NodeCount_eq (w h : Int) : spec_NodeCount.f w h = some (cnt w h) := by
  unfold spec_NodeCount.f
  simp only [spec_GridOk_eq, Option.bind_some]
  by_cases g : gok w h = true
  · have b := cnt_bd w h
    rw [if_pos g, cnt_ok g]
    rw [cnt_ok g] at b
    rw [wrap64_id (by omega) (by omega)]
  · rw [if_neg g, cnt_no (by simpa using g)]

theorem laws_toGrid_eq (w h : Int) : laws_toGrid.f w h = some (w, h) := rfl

theorem eqIntS_loop (a b : List Int) (hl : a.length = b.length) (hn : a.length ≤ 9223372036854775806) : ∀ (d i k : Nat), i + d = a.length → d < k → laws_eqIntS.l0 k a b (i : Int) = some (decide (a.drop i = b.drop i)) := by
  intro d
  induction d with
  | zero =>
    intro i k hi hk
    obtain ⟨k, rfl⟩ : ∃ m, k = m + 1 := ⟨k - 1, by omega⟩
    simp only [laws_eqIntS.l0]
    rw [if_neg (by omega), List.drop_eq_nil_of_le (by omega), List.drop_eq_nil_of_le (by omega)]
    simp
  | succ d ih =>
    intro i k hi hk
    obtain ⟨k, rfl⟩ : ∃ m, k = m + 1 := ⟨k - 1, by omega⟩
    simp only [laws_eqIntS.l0]
    rw [if_pos (by omega), if_pos (by omega), if_pos (by omega), drop_rd a i (by omega), drop_rd b i (by omega)]
    by_cases c : rd a (i : Int) = rd b (i : Int)
    · rw [if_pos c, w64s (by omega), ih (i + 1) k (by omega) (by omega)]
      simp [c]
    · rw [if_neg c]; simp [c]
theorem eqIntS_eq (a b : List Int) (k : Nat) (ha : a.length ≤ 1048576) (hk : 1048577 < k) : laws_eqIntS.f k a b = some (decide (a = b)) := by
  unfold laws_eqIntS.f
  by_cases c : (a.length : Int) = (b.length : Int)
  · rw [if_pos c]
    have h := eqIntS_loop a b (by omega) (by omega) a.length 0 k (by omega) (by omega)
    simpa using h
  · rw [if_neg c]
    have : a ≠ b := fun e => c (by rw [e])
    simp [this]
theorem eqIntS_self (a : List Int) (k : Nat) (ha : a.length ≤ 1048576) (hk : 1048577 < k) : laws_eqIntS.f k a a = some true := by rw [eqIntS_eq a a k ha hk]; simp

theorem markIntS_loop (n m0 : Nat) (hn : n + m0 ≤ 4000000000) : ∀ (d i k : Nat) (x : List Int), i + d = n → d < k → x.length = n → (∀ j, j < i → x[j]? = some ((m0 + j : Nat) : Int)) → laws_markIntS.l0 k x ((m0 + i : Nat) : Int) (i : Int) = some (((m0 + n : Nat) : Int), (List.range n).map fun j => ((m0 + j : Nat) : Int)) := by
  intro d
  induction d with
  | zero =>
    intro i k x hi hk hl hx
    obtain ⟨k, rfl⟩ : ∃ m, k = m + 1 := ⟨k - 1, by omega⟩
    simp only [laws_markIntS.l0]
    rw [if_neg (by omega)]
    have e : x = (List.range n).map fun j => ((m0 + j : Nat) : Int) := by
      apply List.ext_getElem?
      intro j
      by_cases hj : j < n
      · rw [hx j (by omega)]; simp [hj]
      · rw [List.getElem?_eq_none (by omega), List.getElem?_eq_none (by simp; omega)]
    obtain rfl : i = n := by omega
    rw [← e]
  | succ d ih =>
    intro i k x hi hk hl hx
    obtain ⟨k, rfl⟩ : ∃ m, k = m + 1 := ⟨k - 1, by omega⟩
    simp only [laws_markIntS.l0]
    rw [if_pos (by omega), if_pos (by omega), w64s (by omega), w64s (by omega)]
    have e2 : m0 + i + 1 = m0 + (i + 1) := by omega
    rw [e2]
    refine ih (i + 1) k _ (by omega) (by omega) (by simpa using hl) fun j hj => ?_
    have e : ((i : Int)).toNat = i := by simp
    rw [e, List.getElem?_set]
    by_cases c : i = j
    · subst c; rw [if_pos rfl, if_pos (by omega)]
    · rw [if_neg c]; exact hx j (by omega)
theorem markIntS_eq (l : List Int) (m0 k : Nat) (hl : l.length + m0 ≤ 4000000000) (hk : l.length < k) : laws_markIntS.f k l (m0 : Int) = some (((m0 + l.length : Nat) : Int), (List.range l.length).map fun j => ((m0 + j : Nat) : Int)) := by
  unfold laws_markIntS.f
  have h := markIntS_loop l.length m0 (by omega) l.length 0 k l (by omega) (by omega) rfl (by simp)
  simpa using h

theorem heldIntS_loop (n m0 : Nat) (hn : n + m0 ≤ 4000000000) : ∀ (d i k : Nat), i + d = n → d < k → laws_heldIntS.l0 k ((List.range n).map fun j => ((m0 + j : Nat) : Int)) ((m0 + i : Nat) : Int) (i : Int) = some ((m0 + n : Nat) : Int) := by
  intro d
  induction d with
  | zero =>
    intro i k hi hk
    obtain ⟨k, rfl⟩ : ∃ m, k = m + 1 := ⟨k - 1, by omega⟩
    simp only [laws_heldIntS.l0]
    rw [if_neg (by simp; omega)]
    obtain rfl : i = n := by omega
    rfl
  | succ d ih =>
    intro i k hi hk
    obtain ⟨k, rfl⟩ : ∃ m, k = m + 1 := ⟨k - 1, by omega⟩
    simp only [laws_heldIntS.l0]
    rw [if_pos (by simp; omega), if_pos (by omega), if_pos (by rw [rd_nat _ _ (by simp; omega)]; simp), w64s (by omega), w64s (by omega)]
    have e2 : m0 + i + 1 = m0 + (i + 1) := by omega
    rw [e2]
    exact ih (i + 1) k (by omega) (by omega)
theorem heldIntS_eq (n m0 k : Nat) (hl : n + m0 ≤ 4000000000) (hk : n < k) : laws_heldIntS.f k ((List.range n).map fun j => ((m0 + j : Nat) : Int)) (m0 : Int) = some ((m0 + n : Nat) : Int) := by
  unfold laws_heldIntS.f
  have h := heldIntS_loop n m0 (by omega) n 0 k (by omega) (by omega)
  simpa using h

theorem mark_held (l : List Int) (k : Nat) (hl : l.length ≤ 1048576) (hk : 1048577 < k) : ∃ r, laws_markIntS.f k l 1 = some (1 + (l.length : Int), r) ∧ laws_heldIntS.f k r 1 = some (1 + (l.length : Int)) := by
  refine ⟨_, ?_, heldIntS_eq l.length 1 k (by omega) (by omega) |>.trans ?_⟩
  · have h := markIntS_eq l 1 k (by omega) (by omega)
    rw [show ((1 : Nat) : Int) = 1 from rfl] at h
    rw [h]
    simp
  · simp
theorem mark_any (l : List Int) (m k : Nat) (hl : l.length ≤ 1048576) (hm : m ≤ 100000000) (hk : 1048577 < k) : ∃ r, laws_markIntS.f k l (m : Int) = some (((m + l.length : Nat) : Int), r) := ⟨_, markIntS_eq l m k (by omega) (by omega)⟩

theorem eqTable_eq (a b : List Int) (k : Nat) (hl : a.length ≤ 1048576) (hk : 1048577 < k) : laws_eqTable.f k a b = some (decide (a = b)) := by
  unfold laws_eqTable.f
  rw [eqIntS_eq a b k hl hk]
  by_cases c : a = b <;> simp [c]
theorem eqTable_self (l : List Int) (k : Nat) (hl : l.length ≤ 1048576) (hk : 1048577 < k) : laws_eqTable.f k l l = some true := by rw [eqTable_eq l l k hl hk]; simp

theorem spec_l05Port_eq (w h r n t : Int) (k : Nat) (hk : 3 ≤ k) (d : nd w h n = true) (e : nd w h t = true) (hr : inR r 1 4 = true) : spec_l05Port.f k w h r n t = some (stdP w r n t) := by
  obtain ⟨k, rfl⟩ : ∃ m, k = m + 1 + 1 := ⟨k - 2, by omega⟩
  have b1 := nd_bd d
  have b2 := nd_bd e
  have ap := apart d e
  rw [inR_iff] at hr
  unfold spec_l05Port.f stdP
  rw [if_neg (show ¬ w = 0 by omega), tmod_of (show 0 ≤ n by omega), tmod_of (show 0 ≤ t by omega), tmod_of (show 0 ≤ t by omega), tdiv_of (show 0 ≤ n by omega), tdiv_of (show 0 ≤ t by omega), wrap64_id (x := n / w) (by omega) (by omega), wrap64_id (x := t / w) (by omega) (by omega), wrap64_id (x := 1 + t % 2) (by omega) (by omega)]
  have key : ∀ r x y u v : Int, 1 ≤ r → r ≤ 3 → spec_l05Port.j0 (k + 1 + 1) r x y u v = some (stdQ r x y u v) := by
    intro r x y u v h1 h2
    simp only [spec_l05Port.j0, spec_l05Port.j1, spec_l05Column.f, spec_l05Row.f, stdQ]
    have c3 : r = 1 ∨ r = 2 ∨ r = 3 := by omega
    by_cases a1 : u < x <;> by_cases a2 : v < y <;> by_cases a3 : y = v <;> by_cases a4 : x = u <;> rcases c3 with rfl | rfl | rfl <;> simp [a1, a2, a3, a4]
  by_cases c : n = t
  · rw [if_pos c, if_pos c]
  · rw [if_neg c, if_neg c]
    by_cases q : r = 4
    · rw [if_pos q, if_pos q]; exact key _ _ _ _ _ (by omega) (by omega)
    · rw [if_neg q, if_neg q]; exact key _ _ _ _ _ (by omega) (by omega)

theorem impl_StandardPort_eq (w h r n t : Int) (k : Nat) (hk : 3 ≤ k) : impl_StandardPort.f k w h r n t = some (std w h r n t) := by
  obtain ⟨k, rfl⟩ : ∃ m, k = m + 1 + 1 := ⟨k - 2, by omega⟩
  unfold impl_StandardPort.f std
  simp only [impl_isNode_eq, impl_inside_eq, Option.bind_some]
  by_cases d : nd w h n = true
  · by_cases e : nd w h t = true
    · by_cases hr : inR r 1 4 = true
      · have b1 := nd_bd d
        have b2 := nd_bd e
        have ap := apart d e
        have hr' := inR_iff.1 hr
        rw [if_pos d, if_pos e, if_pos (show (nd w h n && nd w h t && inR r 1 4) = true by simp [d, e, hr])]
        simp only [impl_StandardPort.j0]
        rw [if_neg (show ¬ (!inR r 1 4) = true by simp [hr]), tmod_of (show 0 ≤ t by omega), wrap64_id (x := 1 + t % 2) (by omega) (by omega)]
        have key : ∀ r : Int, 1 ≤ r → r ≤ 3 → impl_StandardPort.j1 (k + 1) r n t w h = some (if n = t then 4 else stdQ r (n % w) (n / w) (t % w) (t / w)) := by
          intro r h1 h2
          simp only [impl_StandardPort.j1]
          rw [if_neg (show ¬ w = 0 by omega), tmod_of (show 0 ≤ n by omega), tmod_of (show 0 ≤ t by omega), tdiv_of (show 0 ≤ n by omega), tdiv_of (show 0 ≤ t by omega), wrap64_id (x := n / w) (by omega) (by omega), wrap64_id (x := t / w) (by omega) (by omega)]
          have c3 : r = 1 ∨ r = 2 ∨ r = 3 := by omega
          generalize n % w = x at *
          generalize n / w = y at *
          generalize t % w = u at *
          generalize t / w = v at *
          simp only [impl_along.f, impl_across.f, stdQ]
          by_cases c : n = t
          · by_cases a1 : x < u <;> by_cases a2 : u < x <;> by_cases a3 : y < v <;> by_cases a4 : v < y <;> simp [a1, a2, a3, a4, c]
          · have ap := ap c
            rw [if_neg c]
            have e1 : (x = u) ↔ (¬ x < u ∧ ¬ u < x) := by omega
            have e2 : (y = v) ↔ (¬ y < v ∧ ¬ v < y) := by omega
            by_cases a1 : x < u <;> by_cases a2 : u < x <;> by_cases a3 : y < v <;> by_cases a4 : v < y <;> first | (exfalso; omega) | (rcases c3 with rfl | rfl | rfl <;> simp [c, a1, a2, a3, a4, e1, e2])
        unfold stdP
        by_cases q : r = 4
        · rw [if_pos q, key _ (by omega) (by omega), if_pos q]
        · rw [if_neg q, key _ (by omega) (by omega), if_neg q]
      · have hr' : inR r 1 4 = false := by simpa using hr
        simp [d, e, hr', impl_StandardPort.j0]
    · have e' : nd w h t = false := by simpa using e
      simp [d, e', impl_StandardPort.j0]
  · have d' : nd w h n = false := by simpa using d
    simp [d', impl_StandardPort.j0]

def stdG (w h r : Int) (i : Nat) : Int := stdP w r ((i / (cnt w h).toNat : Nat) : Int) ((i % (cnt w h).toNat : Nat) : Int)
def stdT (w h r : Int) : List Int := (List.range ((cnt w h).toNat * (cnt w h).toNat)).map (stdG w h r)
theorem stdT_len (w h r : Int) : (stdT w h r).length = (cnt w h).toNat * (cnt w h).toNat := by simp [stdT]
theorem cnt_sq (w h : Int) : (cnt w h).toNat * (cnt w h).toNat ≤ 256 ∧ (((cnt w h).toNat * (cnt w h).toNat : Nat) : Int) = cnt w h * cnt w h := by
  have b := cnt_bd w h
  obtain ⟨n, hn⟩ : ∃ n : Nat, cnt w h = n := ⟨(cnt w h).toNat, by omega⟩
  rw [hn] at b ⊢
  simp only [Int.toNat_natCast]
  refine ⟨?_, by simp⟩
  have : n ≤ 16 := by omega
  exact Nat.mul_le_mul this this
theorem l05Make_loop (w h r : Int) (g : gok w h = true) (hr : inR r 1 4 = true) : ∀ (d i k : Nat) (x : List Int), i + d = (cnt w h).toNat * (cnt w h).toNat → d + 5 < k → x = (List.range i).map (stdG w h r) → spec_l05Make.l0 k r (cnt w h) (i : Int) w h x = some (stdT w h r) := by
  have b := cnt_bd w h
  have bp := cnt_pos g
  have sq := cnt_sq w h
  intro d
  induction d with
  | zero =>
    intro i k x hi hk hx
    obtain ⟨k, rfl⟩ : ∃ m, k = m + 1 := ⟨k - 1, by omega⟩
    simp only [spec_l05Make.l0]
    rw [wrap64_id (x := cnt w h * cnt w h) (by omega) (by omega), if_neg (by omega), hx]
    unfold stdT
    congr 3
  | succ d ih =>
    intro i k x hi hk hx
    obtain ⟨k, rfl⟩ : ∃ m, k = m + 1 := ⟨k - 1, by omega⟩
    simp only [spec_l05Make.l0]
    obtain ⟨n, hn⟩ : ∃ n : Nat, cnt w h = n := ⟨(cnt w h).toNat, by omega⟩
    have hlt : i < n * n := by rw [hn] at hi; simp at hi; omega
    have h1 : i / n < n := Nat.div_lt_of_lt_mul hlt
    have h2 : i % n < n := Nat.mod_lt _ (by omega)
    rw [wrap64_id (x := cnt w h * cnt w h) (by omega) (by omega), if_pos (by omega), if_neg (by omega), tdiv_of (by omega), tmod_of (by omega)]
    have e1 : (i : Int) / cnt w h = ((i / n : Nat) : Int) := by rw [hn]; simp
    have e2 : (i : Int) % cnt w h = ((i % n : Nat) : Int) := by rw [hn]; simp
    have hA : wrap64 ((i / n : Nat) : Int) = ((i / n : Nat) : Int) := by
      generalize i / n = q at h1 ⊢
      exact wrap64_id (by omega) (by omega)
    have hB : nd w h ((i / n : Nat) : Int) = true := by
      generalize i / n = q at h1 ⊢
      exact nd_iff.2 ⟨by omega, by omega⟩
    have hC : nd w h ((i % n : Nat) : Int) = true := by
      generalize i % n = q at h2 ⊢
      exact nd_iff.2 ⟨by omega, by omega⟩
    rw [e1, e2, hA, spec_l05Port_eq w h r _ _ k (by omega) hB hC hr]
    simp only [Option.bind_some]
    have hxl : x.length = i := by rw [hx]; simp
    rw [if_pos (by omega), w64s (by omega)]
    refine ih (i + 1) k _ (by omega) (by omega) ?_
    rw [hx, List.range_succ, List.map_append]
    congr 1
    simp [stdG, hn]
theorem spec_l05Make_eq (w h r : Int) (k : Nat) (g : gok w h = true) (hr : inR r 1 4 = true) (hk : 300 < k) : spec_l05Make.f k w h r = some (stdT w h r) := by
  unfold spec_l05Make.f
  have sq := cnt_sq w h
  rw [spec_NodeCount_eq]
  simp only [Option.bind_some]
  exact l05Make_loop w h r g hr ((cnt w h).toNat * (cnt w h).toNat) 0 k [] (by omega) (by omega) rfl

theorem spec_StandardTable_eq (w h r : Int) (k : Nat) (hk : 300 < k) : spec_StandardTable.f k w h r = some (if (gok w h && inR r 1 4) = true then (stdT w h r, true) else ([], false)) := by
  unfold spec_StandardTable.f
  simp only [spec_GridOk_eq, spec_l01In_eq, Option.bind_some]
  by_cases g : gok w h = true
  · by_cases hr : inR r 1 4 = true
    · rw [if_pos g, if_pos hr, spec_l05Make_eq w h r k g hr hk]; simp [g, hr]
    · simp [hr]
  · simp [g]

theorem impl_StandardTable_in (w h r : Int) (n : Nat) (hn : cnt w h = n) (g : gok w h = true) (hr : inR r 1 4 = true) (R : List Int × Bool) (K node : Nat) (hnode : node < n)
    (next : ∀ k, K ≤ k → impl_StandardTable.l0 k r (n : Int) ((node + 1 : Nat) : Int) w h ((List.range ((node + 1) * n)).map (stdG w h r)) = some R) :
    ∀ (d t k : Nat) (x : List Int), t + d = n → K + d + 5 ≤ k → x = (List.range (node * n + t)).map (stdG w h r) → impl_StandardTable.l1 k r (node : Int) (n : Int) (node : Int) (n : Int) (t : Int) w h x = some R := by
  have b := cnt_bd w h
  intro d
  induction d with
  | zero =>
    intro t k x ht hk hx
    obtain ⟨k, rfl⟩ : ∃ m, k = m + 1 := ⟨k - 1, by omega⟩
    simp only [impl_StandardTable.l1]
    rw [if_neg (by omega), w64s (by omega), hx]
    have e : node * n + t = (node + 1) * n := by rw [Nat.succ_mul]; omega
    rw [e]
    exact next k (by omega)
  | succ d ih =>
    intro t k x ht hk hx
    obtain ⟨k, rfl⟩ : ∃ m, k = m + 1 := ⟨k - 1, by omega⟩
    simp only [impl_StandardTable.l1]
    have d1 : nd w h (node : Int) = true := nd_iff.2 ⟨by omega, by omega⟩
    have d2 : nd w h (t : Int) = true := nd_iff.2 ⟨by omega, by omega⟩
    rw [if_pos (by omega), impl_StandardPort_eq w h r _ _ k (by omega)]
    simp only [Option.bind_some]
    have hxl : x.length = node * n + t := by rw [hx]; simp
    have hm : node * n ≤ 16 * 16 := Nat.mul_le_mul (by omega) (by omega)
    rw [if_pos (by omega), w64s (by omega)]
    refine ih (t + 1) k _ (by omega) (by omega) ?_
    rw [hx, show node * n + (t + 1) = node * n + t + 1 from rfl, List.range_succ, List.map_append]
    congr 1
    unfold std
    rw [if_pos (by simp [d1, d2, hr])]
    have e1 : (node * n + t) / n = node := by
      rw [Nat.mul_comm, Nat.mul_add_div (by omega), Nat.div_eq_of_lt (by omega)]; omega
    have e2 : (node * n + t) % n = t := by
      rw [Nat.mul_comm, Nat.mul_add_mod, Nat.mod_eq_of_lt (by omega)]
    simp [stdG, hn, e1, e2]
theorem impl_StandardTable_out (w h r : Int) (n : Nat) (hn : cnt w h = n) (g : gok w h = true) (hr : inR r 1 4 = true) :
    ∀ (d node k : Nat), node + d = n → 40 * d + 5 ≤ k → impl_StandardTable.l0 k r (n : Int) (node : Int) w h ((List.range (node * n)).map (stdG w h r)) = some (stdT w h r, true) := by
  have b := cnt_bd w h
  intro d
  induction d with
  | zero =>
    intro node k hd hk
    obtain ⟨k, rfl⟩ : ∃ m, k = m + 1 := ⟨k - 1, by omega⟩
    simp only [impl_StandardTable.l0]
    rw [if_neg (by omega)]
    have e : node = n := by omega
    rw [e]
    simp [stdT, hn]
  | succ d ih =>
    intro node k hd hk
    obtain ⟨k, rfl⟩ : ∃ m, k = m + 1 := ⟨k - 1, by omega⟩
    simp only [impl_StandardTable.l0]
    rw [if_pos (by omega), impl_NodeCount_eq, hn]
    simp only [Option.bind_some]
    exact impl_StandardTable_in w h r n hn g hr _ (40 * d + 5) node (by omega) (fun k' hk' => ih (node + 1) k' (by omega) hk') n 0 k _ (by omega) (by omega) rfl
theorem impl_StandardTable_eq (w h r : Int) (k : Nat) (hk : 1000 < k) : impl_StandardTable.f k w h r = some (if (gok w h && inR r 1 4) = true then (stdT w h r, true) else ([], false)) := by
  have b := cnt_bd w h
  obtain ⟨k, rfl⟩ : ∃ m, k = m + 1 := ⟨k - 1, by omega⟩
  unfold impl_StandardTable.f
  simp only [impl_GridOk_eq, impl_inside_eq, Option.bind_some, impl_StandardTable.j0]
  by_cases g : gok w h = true
  · by_cases hr : inR r 1 4 = true
    · obtain ⟨n, hn⟩ : ∃ n : Nat, cnt w h = n := ⟨(cnt w h).toNat, by omega⟩
      rw [if_pos g, if_neg (by simp [hr]), impl_NodeCount_eq, hn]
      simp only [Option.bind_some]
      have e := impl_StandardTable_out w h r n hn g hr n 0 k (by omega) (by omega)
      simp only [Nat.zero_mul, List.range_zero, List.map_nil] at e
      rw [show ((0 : Nat) : Int) = 0 from rfl] at e
      rw [e]
      simp [g, hr]
    · have hr' : inR r 1 4 = false := by simpa using hr
      simp [hr']
  · simp [g]

theorem FnExactStandardTable : laws_FnExactStandardTable.Pure := by
  intro w h r _ _ _
  obtain ⟨k, hk⟩ : ∃ k : Nat, 4000000 ≤ k := ⟨_, Nat.le_refl _⟩
  refine ⟨k + 1 + 1, ?_⟩
  unfold laws_FnExactStandardTable.f
  generalize hv : (if (gok w h && inR r 1 4) = true then (stdT w h r, true) else (([] : List Int), false)) = v
  have hl : v.1.length ≤ 256 := by
    have sq := cnt_sq w h
    rw [← hv]
    split
    · rw [stdT_len]; exact sq.1
    · simp
  have es : ∀ k, 300 < k → spec_StandardTable.f k w h r = some v := fun k hk => by rw [spec_StandardTable_eq w h r k hk, hv]
  have ei : ∀ k, 1000 < k → impl_StandardTable.f k w h r = some v := fun k hk => by rw [impl_StandardTable_eq w h r k hk, hv]
  obtain ⟨r2, m2, m3⟩ := mark_held v.1 (k + 1) (by omega) (by omega)
  have m4 : laws_heldIntS.f k r2 1 = some (1 + (v.1.length : Int)) := by
    obtain ⟨r3, m5, m6⟩ := mark_held v.1 k (by omega) (by omega)
    have e1 := markIntS_eq v.1 1 (k + 1) (by omega) (by omega)
    have e2 := markIntS_eq v.1 1 k (by omega) (by omega)
    rw [show ((1 : Nat) : Int) = 1 from rfl] at e1 e2
    rw [e1] at m2
    rw [e2] at m5
    simp only [Option.some.injEq, Prod.mk.injEq] at m2 m5
    rw [← m2.2, m5.2]
    exact m6
  simp only [laws_toGrid_eq, es (k + 1 + 1) (by omega), ei (k + 1 + 1) (by omega), eqTable_self v.1 (k + 1 + 1) (by omega) (by omega), Option.bind_some, if_true]
  simp only [laws_FnExactStandardTable.j0, laws_markTable.f, laws_heldTable.f, m2, m3, Option.bind_some, laws_toGrid_eq, ei (k + 1) (by omega), eqTable_self v.1 (k + 1) (by omega) (by omega), if_true]
  rw [if_neg (by simp), if_neg (by omega)]
  simp only [Option.bind_some]
  rw [if_neg (by omega)]
  simp only [if_true, laws_FnExactStandardTable.j1, laws_heldTable.f, m4, Option.bind_some]
  rw [if_neg (by simp), if_neg (by omega)]
  simp only [Option.bind_some]
  rw [if_neg (by omega)]
  simp

end Go.Proofs.Ytohccnaellachab.Pure
