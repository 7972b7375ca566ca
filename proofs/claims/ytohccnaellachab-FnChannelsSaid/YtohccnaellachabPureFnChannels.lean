/- What is proved: the statement FnChannels, in its pure form, over numbers and lists: the channels are as many as neighbors in both directions, without the broken ones, for every draw (no conditions). -/
import Derived.Test.YtohccnaellachabX34
import Derived.Test.YtohccnaellachabModel
set_option linter.unusedVariables false
set_option linter.unusedSimpArgs false
namespace Go.Proofs.Ytohccnaellachab.Pure
open Go.RowKit Go.Proofs.Ytohccnaellachab.X Go.Proofs.Ytohccnaellachab.M Go.Proofs.YtohccnaellachabW.PrintWords Go.Proofs.YtohccnaellachabW.PrintLast
theorem rd_nat (l : List Int) (i : Nat) (h : i < l.length) : rd l (i : Int) = l[i] := by unfold rd; simp [h]
theorem drop_rd (l : List Int) (i : Nat) (h : i < l.length) : l.drop i = rd l (i : Int) :: l.drop (i + 1) := by
  rw [rd_nat l i h]; exact List.drop_eq_getElem_cons h
theorem w64s {i : Nat} (h : i ≤ 9223372036854775806) : wrap64 ((i : Int) + 1) = ((i + 1 : Nat) : Int) := by rw [wrap64_id (by omega) (by omega)]; omega
theorem w64p {i : Nat} (h : i ≤ 9223372036854775806) (h0 : 0 < i) : wrap64 ((i : Int) - 1) = ((i - 1 : Nat) : Int) := by rw [wrap64_id (by omega) (by omega)]; omega

theorem impl_inside_eq (a b c : Int) : impl_inside.f a b c = some (inR a b c) := by
  unfold impl_inside.f inR
  by_cases h : b ≤ a <;> simp [h]

theorem impl_GridOk_eq (w h : Int) : impl_GridOk.f w h = some (gok w h) := by
  unfold impl_GridOk.f gok
  simp only [impl_inside_eq, Option.bind_some]
  cases inR w 1 4 <;> rfl

theorem impl_NodeCount_eq (w h : Int) : impl_NodeCount.f w h = some (cnt w h) := by
  unfold impl_NodeCount.f
  simp only [impl_GridOk_eq, Option.bind_some]
  by_cases g : gok w h = true
  · have b := cnt_bd w h
    rw [if_pos g, cnt_ok g]
    rw [cnt_ok g] at b
    rw [wrap64_id (by omega) (by omega)]
  · rw [if_neg g, cnt_no (by simpa using g)]

theorem impl_isNode_eq (w h n : Int) : impl_isNode.f w h n = some (nd w h n) := by
  have b := cnt_bd w h
  unfold impl_isNode.f nd
  simp only [impl_NodeCount_eq, impl_inside_eq, Option.bind_some]
  rw [wrap64_id (by omega) (by omega)]

theorem impl_NodeAt_eq (w h x y : Int) : impl_NodeAt.f w h x y = some (natx w h x y) := by
  unfold impl_NodeAt.f natx
  simp only [impl_GridOk_eq, impl_inside_eq, Option.bind_some]
  by_cases g : gok w h = true
  · have b := gok_iff.1 g
    rw [if_pos g, wrap64_id (x := w - 1) (by omega) (by omega), wrap64_id (x := h - 1) (by omega) (by omega)]
    by_cases hx : inR x 0 (w - 1) = true
    · rw [if_pos hx]
      by_cases hy : inR y 0 (h - 1) = true
      · rw [if_pos hy, if_pos (by simp [g, hx, hy])]
        rw [inR_iff] at hx hy
        have e : wrap64 (y * w) = y * w := by rcases w4 g with rfl | rfl | rfl | rfl <;> exact wrap64_id (by omega) (by omega)
        have e2 : wrap64 (y * w + x) = y * w + x := by rcases w4 g with rfl | rfl | rfl | rfl <;> exact wrap64_id (by omega) (by omega)
        rw [e, e2]
      · rw [if_neg hy, if_neg (by simp [hy])]
    · rw [if_neg hx, if_neg (by simp [hx])]
  · rw [if_neg g, if_neg (by simp [g])]

theorem impl_NextNode_eq (w h n p : Int) : impl_NextNode.f w h n p = some (nxt w h n p) := by
  unfold impl_NextNode.f nxt
  simp only [impl_isNode_eq, Option.bind_some]
  by_cases d : nd w h n = true
  · have b := nd_bd d
    rw [if_pos d, if_pos d, if_neg (by omega)]
    simp only [impl_NodeAt_eq, Option.bind_some, tmod_of (show 0 ≤ n by omega), tdiv_of (show 0 ≤ n by omega)]
    rw [wrap64_id (x := n / w) (by omega) (by omega), wrap64_id (x := n / w - 1) (by omega) (by omega), wrap64_id (x := n / w + 1) (by omega) (by omega), wrap64_id (x := n % w + 1) (by omega) (by omega), wrap64_id (x := n % w - 1) (by omega) (by omega)]
    repeat' split
    all_goals rfl
  · rw [if_neg d, if_neg d]

theorem impl_leads_eq (w h c : Int) : impl_leads.f w h c = some (leads w h c) := by
  have b := cnt_bd w h
  unfold impl_leads.f leads
  simp only [impl_NodeCount_eq, impl_inside_eq, Option.bind_some, impl_NextNode_eq]
  rw [wrap64_id (x := 4 * cnt w h) (by omega) (by omega), wrap64_id (by omega) (by omega)]
  by_cases r : inR c 0 (4 * cnt w h - 1) = true
  · have b := inR_iff.1 r
    rw [if_pos r, tdiv_of (by omega), wrap64_id (by omega) (by omega), tmod_of (by omega), r]
    rfl
  · rw [if_neg r]
    simp [r]

theorem spec_l01In_eq (a b c : Int) : spec_l01In.f a b c = some (inR a b c) := by
  unfold spec_l01In.f inR
  by_cases h : b ≤ a <;> simp [h]

theorem spec_GridOk_eq (w h : Int) : spec_GridOk.f w h = some (gok w h) := by
  unfold spec_GridOk.f gok
  simp only [spec_l01In_eq, Option.bind_some]
  cases inR w 1 4 <;> rfl

theorem spec_NodeCount_eq (w h : Int) : spec_NodeCount.f w h = some (cnt w h) := by
  unfold spec_NodeCount.f
  simp only [spec_GridOk_eq, Option.bind_some]
  by_cases g : gok w h = true
  · have b := cnt_bd w h
    rw [if_pos g, cnt_ok g]
    rw [cnt_ok g] at b
    rw [wrap64_id (by omega) (by omega)]
  · rw [if_neg g, cnt_no (by simpa using g)]

theorem spec_l02Has_eq (w h n : Int) : spec_l02Has.f w h n = some (nd w h n) := by
  have b := cnt_bd w h
  unfold spec_l02Has.f nd
  simp only [spec_NodeCount_eq, spec_l01In_eq, Option.bind_some]
  rw [wrap64_id (by omega) (by omega)]

theorem spec_NodeAt_eq (w h x y : Int) : spec_NodeAt.f w h x y = some (natx w h x y) := by
  unfold spec_NodeAt.f natx
  simp only [spec_GridOk_eq, spec_l01In_eq, Option.bind_some]
  by_cases g : gok w h = true
  · have b := gok_iff.1 g
    rw [if_pos g, wrap64_id (x := w - 1) (by omega) (by omega), wrap64_id (x := h - 1) (by omega) (by omega)]
    by_cases hx : inR x 0 (w - 1) = true
    · rw [if_pos hx]
      by_cases hy : inR y 0 (h - 1) = true
      · rw [if_pos hy, if_pos (by simp [g, hx, hy])]
        rw [inR_iff] at hx hy
        have e : wrap64 (y * w) = y * w := by rcases w4 g with rfl | rfl | rfl | rfl <;> exact wrap64_id (by omega) (by omega)
        have e2 : wrap64 (y * w + x) = y * w + x := by rcases w4 g with rfl | rfl | rfl | rfl <;> exact wrap64_id (by omega) (by omega)
        rw [e, e2]
      · rw [if_neg hy, if_neg (by simp [hy])]
    · rw [if_neg hx, if_neg (by simp [hx])]
  · rw [if_neg g, if_neg (by simp [g])]

theorem spec_NextNode_eq (w h n p : Int) : spec_NextNode.f w h n p = some (nxt w h n p) := by
  unfold spec_NextNode.f nxt
  simp only [spec_l02Has_eq, Option.bind_some]
  by_cases d : nd w h n = true
  · have b := nd_bd d
    rw [if_pos d, if_pos d, if_neg (by omega)]
    simp only [spec_NodeAt_eq, Option.bind_some, tmod_of (show 0 ≤ n by omega), tdiv_of (show 0 ≤ n by omega)]
    rw [wrap64_id (x := n / w) (by omega) (by omega), wrap64_id (x := n / w - 1) (by omega) (by omega), wrap64_id (x := n / w + 1) (by omega) (by omega), wrap64_id (x := n % w + 1) (by omega) (by omega), wrap64_id (x := n % w - 1) (by omega) (by omega)]
    repeat' split
    all_goals rfl
  · rw [if_neg d, if_neg d]

theorem spec_l03Leads_eq (w h c : Int) : spec_l03Leads.f w h c = some (leads w h c) := by
  have b := cnt_bd w h
  unfold spec_l03Leads.f leads
  simp only [spec_NodeCount_eq, spec_l01In_eq, Option.bind_some, spec_NextNode_eq]
  rw [wrap64_id (x := 4 * cnt w h) (by omega) (by omega), wrap64_id (by omega) (by omega)]
  by_cases r : inR c 0 (4 * cnt w h - 1) = true
  · have b := inR_iff.1 r
    rw [if_pos r, tdiv_of (by omega), wrap64_id (by omega) (by omega), tmod_of (by omega), r]
    rfl
  · rw [if_neg r]
    simp [r]

theorem impl_MeshOk_loop (w h : Int) (l : List Int) (hn : l.length ≤ 9223372036854775806) : ∀ (d i k : Nat), i + d = l.length → d < k → impl_MeshOk.l0 k l (l.length : Int) (i : Int) w h l = some (brOk w h (if i = 0 then none else some (rd l ((i - 1 : Nat) : Int))) (l.drop i) && gok w h) := by
  intro d
  induction d with
  | zero =>
    intro i k hi hk
    obtain ⟨k, rfl⟩ : ∃ m, k = m + 1 := ⟨k - 1, by omega⟩
    simp only [impl_MeshOk.l0]
    rw [if_neg (by omega), impl_GridOk_eq, List.drop_eq_nil_of_le (by omega)]
    simp [brOk]
  | succ d ih =>
    intro i k hi hk
    obtain ⟨k, rfl⟩ : ∃ m, k = m + 1 := ⟨k - 1, by omega⟩
    simp only [impl_MeshOk.l0]
    rw [if_pos (by omega), if_pos (by omega), if_pos (by omega), impl_leads_eq, drop_rd l i (by omega)]
    simp only [Option.bind_some]
    by_cases c : leads w h (rd l (i : Int)) = true
    · rw [if_pos c]
      have e := ih (i + 1) k (by omega) (by omega)
      rw [if_neg (by omega), show i + 1 - 1 = i from by omega] at e
      by_cases z : i = 0
      · subst z
        rw [if_neg (by simp), w64s (by omega), e, if_pos rfl]
        simp only [brOk, c, Bool.true_and]
      · rw [if_pos (by omega), w64p (by omega) (by omega), if_pos (by omega), if_pos (by omega), if_neg z]
        by_cases q : rd l ((i - 1 : Nat) : Int) ≥ rd l (i : Int)
        · rw [if_pos q]
          simp only [brOk]
          rw [show decide (rd l ((i - 1 : Nat) : Int) < rd l (i : Int)) = false from decide_eq_false (by omega)]
          simp
        · rw [if_neg q, w64s (by omega), e]
          simp only [brOk]
          rw [show decide (rd l ((i - 1 : Nat) : Int) < rd l (i : Int)) = true from decide_eq_true (by omega), c]
          simp
    · rw [if_neg c]
      have c' : leads w h (rd l (i : Int)) = false := by simpa using c
      by_cases z : i = 0
      · rw [if_pos z]; simp only [brOk, c', Bool.false_and]
      · rw [if_neg z]; simp only [brOk, c', Bool.false_and]
theorem impl_MeshOk_eq (w h : Int) (l : List Int) (k : Nat) (hl : l.length ≤ 1048576) (hk : 1048577 < k) : impl_MeshOk.f k w h l = some (meshOk w h l) := by
  unfold impl_MeshOk.f
  have e := impl_MeshOk_loop w h l (by omega) l.length 0 k (by omega) (by omega)
  rw [show ((0 : Nat) : Int) = 0 from rfl] at e
  rw [e]
  simp [meshOk, Bool.and_comm]

theorem slicesIndex_loop (l : List Int) (c : Int) (hn : l.length ≤ 9223372036854775806) : ∀ (d i k : Nat), i + d = l.length → d < k → ∃ r, slices_Index_int_int.l0 k l c (l.length : Int) (i : Int) = some r ∧ (0 ≤ r ↔ c ∈ l.drop i) := by
  intro d
  induction d with
  | zero =>
    intro i k hi hk
    obtain ⟨k, rfl⟩ : ∃ m, k = m + 1 := ⟨k - 1, by omega⟩
    simp only [slices_Index_int_int.l0]
    rw [if_neg (by omega), List.drop_eq_nil_of_le (by omega)]
    exact ⟨-1, rfl, by simp⟩
  | succ d ih =>
    intro i k hi hk
    obtain ⟨k, rfl⟩ : ∃ m, k = m + 1 := ⟨k - 1, by omega⟩
    simp only [slices_Index_int_int.l0]
    rw [if_pos (by omega), if_pos (by omega), if_pos (by omega), drop_rd l i (by omega)]
    by_cases q : c = rd l (i : Int)
    · rw [if_pos q]; exact ⟨_, rfl, by simp [q]⟩
    · rw [if_neg q, w64s (by omega)]
      obtain ⟨r, h1, h2⟩ := ih (i + 1) k (by omega) (by omega)
      exact ⟨r, h1, by simp [q, h2]⟩
theorem slicesContains_eq (l : List Int) (c : Int) (k : Nat) (hl : l.length ≤ 1048576) (hk : 1048577 < k) : slices_Contains_int_int.f k l c = some (decide (c ∈ l)) := by
  unfold slices_Contains_int_int.f slices_Index_int_int.f
  obtain ⟨r, h1, h2⟩ := slicesIndex_loop l c (by omega) l.length 0 k (by omega) (by omega)
  rw [show ((0 : Nat) : Int) = 0 from rfl] at h1
  rw [h1]
  simp only [Option.bind_some]
  congr 1
  simpa using h2

theorem impl_HasChannel_eq (w h : Int) (l : List Int) (c : Int) (k : Nat) (hl : l.length ≤ 1048576) (hk : 1048577 < k) : impl_HasChannel.f k w h l c = some (hasC w h l c) := by
  unfold impl_HasChannel.f
  rw [impl_MeshOk_eq w h l k hl hk, impl_leads_eq, slicesContains_eq l c k hl hk]
  simp only [Option.bind_some]
  by_cases q : meshOk w h l = true
  · by_cases q2 : leads w h c = true <;> simp [q, q2, hasC]
  · simp [q, hasC]

theorem i64_and255 (n : Int) : bits .and .i64 n 255 = n % 256 := by
  have h : (BitVec.ofInt 64 255).toNat = 2 ^ 8 - 1 := by decide
  have key : (BitVec.ofInt 64 n &&& BitVec.ofInt 64 255).toNat = (n % ((2 ^ 64 : Nat) : Int)).toNat % 2 ^ 8 := by
    rw [BitVec.toNat_and, BitVec.toNat_ofInt, h, Nat.and_two_pow_sub_one_eq_mod]
  show IntKind.i64.wrap ((BitVec.ofInt 64 n &&& BitVec.ofInt 64 255).toNat : Nat) = n % 256
  rw [key, IntKind.wrap_i64]
  omega
/-- the cursor: a place in the bytes -/
def Cur (b : List Int) (i : Int) : Prop := b.length ≤ 1048576 ∧ 0 ≤ i ∧ i ≤ b.length
theorem byte_ok {b : List Int} {i h : Int} (c : Cur b i) : ∃ r i' h', spec_l01Byte.f b i h = some (r, i', h') ∧ Cur b i' ∧ 0 ≤ r ∧ r ≤ 255 := by
  obtain ⟨c0, c1, c2⟩ := c
  unfold spec_l01Byte.f
  by_cases q : i < (b.length : Int)
  · rw [if_pos q, if_pos c1]
    refine ⟨_, _, _, rfl, ⟨c0, ?_, ?_⟩, ?_, ?_⟩
    · rw [wrap64_id (by omega) (by omega)]; omega
    · rw [wrap64_id (by omega) (by omega)]; omega
    · rw [i64_and255]; omega
    · rw [i64_and255]; omega
  · rw [if_neg q]
    refine ⟨_, _, _, rfl, ⟨c0, c1, c2⟩, ?_, ?_⟩
    · rw [i64_and255]; omega
    · rw [i64_and255]; omega

theorem below_ok {b : List Int} {i h n : Int} (c : Cur b i) (hn : 0 < n) : ∃ r i' h', spec_l01Below.f b i h n = some (r, i', h') ∧ Cur b i' ∧ 0 ≤ r ∧ r < n := by
  unfold spec_l01Below.f
  rw [if_neg (show ¬ n ≤ 0 by omega)]
  by_cases q : n ≤ 256
  · rw [if_pos q]
    obtain ⟨r, i', h', e, c', r0, r1⟩ := byte_ok (h := h) c
    rw [e]
    simp only [Option.bind_some]
    rw [if_neg (show ¬ n = 0 by omega), tmod_of r0]
    exact ⟨_, _, _, rfl, c', Int.emod_nonneg _ (by omega), Int.emod_lt_of_pos _ hn⟩
  · rw [if_neg q]
    obtain ⟨r1, i1, h1, e1, c1, a1, b1⟩ := byte_ok (h := h) c
    rw [e1]
    simp only [Option.bind_some]
    obtain ⟨r2, i2, h2, e2, c2, a2, b2⟩ := byte_ok (h := h1) c1
    rw [e2]
    simp only [Option.bind_some]
    obtain ⟨r3, i3, h3, e3, c3, a3, b3⟩ := byte_ok (h := h2) c2
    rw [e3]
    simp only [Option.bind_some]
    obtain ⟨r4, i4, h4, e4, c4, a4, b4⟩ := byte_ok (h := h3) c3
    rw [e4]
    simp only [Option.bind_some]
    rw [if_neg (show ¬ n = 0 by omega), wrap64_id (x := r1 * 16777216) (by omega) (by omega), wrap64_id (x := r2 * 65536) (by omega) (by omega), wrap64_id (x := r3 * 256) (by omega) (by omega), wrap64_id (x := r1 * 16777216 + r2 * 65536) (by omega) (by omega), wrap64_id (x := r1 * 16777216 + r2 * 65536 + r3 * 256) (by omega) (by omega), wrap64_id (by omega) (by omega), tmod_of (by omega)]
    exact ⟨_, _, _, rfl, c4, Int.emod_nonneg _ (by omega), Int.emod_lt_of_pos _ hn⟩
theorem below0_ok {b : List Int} {i h n : Int} (c : Cur b i) (hn : n ≤ 0) : spec_l01Below.f b i h n = some (0, i, h) := by
  unfold spec_l01Below.f
  rw [if_pos hn]

theorem once_ok {b : List Int} {i h n : Int} (c : Cur b i) (hn : 0 < n) : ∃ r i' h', spec_l01Once.f b i h n = some (r, i', h') ∧ Cur b i' := by
  unfold spec_l01Once.f
  obtain ⟨r, i', h', e, c', _, _⟩ := below_ok (h := h) c hn
  rw [e]
  exact ⟨_, _, _, rfl, c'⟩

theorem pick_ok {b : List Int} {i h : Int} {l : List Int} (c : Cur b i) (hl : 0 < l.length) : ∃ r i' h', spec_l01PickInt.f b i h l = some (r, i', h') ∧ Cur b i' ∧ r ∈ l := by
  unfold spec_l01PickInt.f
  obtain ⟨r, i', h', e, c', r0, r1⟩ := below_ok (h := h) c (show 0 < (l.length : Int) by omega)
  rw [e]
  simp only [Option.bind_some]
  rw [if_pos r0, if_pos r1]
  refine ⟨_, _, _, rfl, c', ?_⟩
  obtain ⟨n, rfl⟩ := Int.eq_ofNat_of_zero_le r0
  rw [rd_nat l n (by omega)]
  exact List.getElem_mem _

theorem new_loop (b : List Int) : ∀ (d i k : Nat) (h : Int), i + d = 4000 → d < k → ∃ h', spec_l01New.l0 k b h (i : Int) = some (b, 0, h') := by
  intro d
  induction d with
  | zero =>
    intro i k h hi hk
    obtain ⟨k, rfl⟩ : ∃ m, k = m + 1 := ⟨k - 1, by omega⟩
    simp only [spec_l01New.l0]
    by_cases q : (i : Int) < (b.length : Int)
    · rw [if_pos q, if_neg (by omega)]; exact ⟨_, rfl⟩
    · rw [if_neg q]; exact ⟨_, rfl⟩
  | succ d ih =>
    intro i k h hi hk
    obtain ⟨k, rfl⟩ : ∃ m, k = m + 1 := ⟨k - 1, by omega⟩
    simp only [spec_l01New.l0]
    by_cases q : (i : Int) < (b.length : Int)
    · rw [if_pos q, if_pos (by omega), if_pos (by omega), w64s (by omega)]
      exact ih (i + 1) k _ (by omega) (by omega)
    · rw [if_neg q]; exact ⟨_, rfl⟩
theorem new_ok (b : List Int) (k : Nat) (hb : b.length ≤ 1048576) (hk : 4000 < k) : ∃ h, spec_l01New.f k b = some (b, 0, h) ∧ Cur b 0 := by
  unfold spec_l01New.f
  obtain ⟨h, e⟩ := new_loop b 4000 0 k (wrap64 (98459 + (b.length : Int))) (by omega) (by omega)
  exact ⟨h, e, hb, by omega, by omega⟩

theorem big_eq (l : List Int) : laws_big.f l = some (decide (1048576 < l.length)) := by
  unfold laws_big.f
  congr 1
  simp
  omega

def chFrom (w h : Int) (l : List Int) (i d : Nat) : List Int := ((List.range' i d).map fun (j : Nat) => (j : Int)).filter (hasC w h l)
def chans (w h : Int) (l : List Int) : List Int := chFrom w h l 0 (4 * cnt w h).toNat
theorem chFrom_succ (w h : Int) (l : List Int) (i d : Nat) : chFrom w h l i (d + 1) = if hasC w h l (i : Int) = true then (i : Int) :: chFrom w h l (i + 1) d else chFrom w h l (i + 1) d := by
  unfold chFrom
  rw [List.range'_succ, List.map_cons, List.filter_cons]
theorem chFrom_len (w h : Int) (l : List Int) (i d : Nat) : (chFrom w h l i d).length ≤ d := by
  unfold chFrom
  refine Nat.le_trans (List.length_filter_le _ _) ?_
  simp
theorem chans_len (w h : Int) (l : List Int) : (chans w h l).length ≤ 64 := by
  have b := cnt_bd w h
  have := chFrom_len w h l 0 (4 * cnt w h).toNat
  unfold chans
  omega
theorem impl_Channels_loop (w h : Int) (l : List Int) (hl : l.length ≤ 1048576) : ∀ (d i k : Nat) (x : List Int), i + d ≤ 1000 → d + 1048600 < k → x.length ≤ i → impl_Channels.l0 k x ((i + d : Nat) : Int) (i : Int) w h l = some (x ++ chFrom w h l i d) := by
  intro d
  induction d with
  | zero =>
    intro i k x hi hk hx
    obtain ⟨k, rfl⟩ : ∃ m, k = m + 1 := ⟨k - 1, by omega⟩
    simp only [impl_Channels.l0]
    rw [if_neg (by omega)]
    simp [chFrom]
  | succ d ih =>
    intro i k x hi hk hx
    obtain ⟨k, rfl⟩ : ∃ m, k = m + 1 := ⟨k - 1, by omega⟩
    simp only [impl_Channels.l0]
    rw [if_pos (by omega), impl_HasChannel_eq w h l _ k hl (by omega), chFrom_succ]
    simp only [Option.bind_some]
    have e : i + (d + 1) = i + 1 + d := by omega
    by_cases q : hasC w h l (i : Int) = true
    · rw [if_pos q, if_pos q, if_pos (by omega), w64s (by omega), e, ih (i + 1) k _ (by omega) (by omega) (by simp; omega)]
      simp
    · rw [if_neg q, if_neg q, w64s (by omega), e, ih (i + 1) k _ (by omega) (by omega) (by omega)]
theorem impl_Channels_eq (w h : Int) (l : List Int) (k : Nat) (hl : l.length ≤ 1048576) (hk : 1050000 < k) : impl_Channels.f k w h l = some (chans w h l) := by
  have b := cnt_bd w h
  unfold impl_Channels.f chans
  rw [impl_NodeCount_eq]
  simp only [Option.bind_some]
  rw [wrap64_id (by omega) (by omega)]
  have e := impl_Channels_loop w h l hl (4 * cnt w h).toNat 0 k [] (by omega) (by omega) (by simp)
  rw [show ((0 + (4 * cnt w h).toNat : Nat) : Int) = 4 * cnt w h by omega, show ((0 : Nat) : Int) = 0 from rfl] at e
  rw [e]
  simp

theorem grid_ok {b : List Int} {i h : Int} (c : Cur b i) : ∃ w' h' i' g, spec_l02Grid.f b i h = some (w', h', i', g) ∧ Cur b i' ∧ w' ∈ [(1 : Int), 2, 3, 4] ∧ h' ∈ [(1 : Int), 2, 3, 4] := by
  unfold spec_l02Grid.f
  obtain ⟨r1, i1, h1, e1, c1, m1⟩ := pick_ok (h := h) (l := [1, 2, 2, 3, 3, 4]) c (by simp)
  rw [e1]
  simp only [Option.bind_some]
  obtain ⟨r2, i2, h2, e2, c2, m2⟩ := pick_ok (h := h1) (l := [1, 2, 2, 3, 3, 4]) c1 (by simp)
  rw [e2]
  refine ⟨_, _, _, _, rfl, c2, ?_, ?_⟩
  · simp at m1 ⊢; omega
  · simp at m2 ⊢; omega

theorem has_loop (l : List Int) (c : Int) (hn : l.length ≤ 9223372036854775806) : ∀ (d i k : Nat), i + d = l.length → d < k → laws_has.l0 k l c (i : Int) = some (decide (c ∈ l.drop i)) := by
  intro d
  induction d with
  | zero =>
    intro i k hi hk
    obtain ⟨k, rfl⟩ : ∃ m, k = m + 1 := ⟨k - 1, by omega⟩
    simp only [laws_has.l0]
    rw [if_neg (by omega), List.drop_eq_nil_of_le (by omega)]
    simp
  | succ d ih =>
    intro i k hi hk
    obtain ⟨k, rfl⟩ : ∃ m, k = m + 1 := ⟨k - 1, by omega⟩
    simp only [laws_has.l0]
    rw [if_pos (by omega), if_pos (by omega), drop_rd l i (by omega)]
    by_cases q : rd l (i : Int) = c
    · rw [if_pos q]; simp [q]
    · rw [if_neg q, w64s (by omega), ih (i + 1) k (by omega) (by omega)]
      have : ¬ c = rd l (i : Int) := fun e => q e.symm
      simp [this]
theorem has_eq (l : List Int) (c : Int) (k : Nat) (hl : l.length ≤ 1048576) (hk : 1048577 < k) : laws_has.f k l c = some (decide (c ∈ l)) := by
  unfold laws_has.f
  have e := has_loop l c (by omega) l.length 0 k (by omega) (by omega)
  simpa using e

def leadFrom (w h : Int) (i d : Nat) : List Int := ((List.range' i d).map fun (j : Nat) => (j : Int)).filter (leads w h)
theorem leadFrom_succ (w h : Int) (i d : Nat) : leadFrom w h i (d + 1) = if leads w h (i : Int) = true then (i : Int) :: leadFrom w h (i + 1) d else leadFrom w h (i + 1) d := by
  unfold leadFrom
  rw [List.range'_succ, List.map_cons, List.filter_cons]
theorem mesh_loop (w h : Int) (b : List Int) : ∀ (d i k : Nat) (x : List Int) (ci ch : Int), ((i + d : Nat) : Int) = 4 * cnt w h → d < k → x.length ≤ i → Cur b ci → ∃ s ci' ch', spec_l03Mesh.l0 k (i : Int) b ci ch w h x = some (w, h, x ++ s, ci', ch') ∧ Cur b ci' ∧ s.Sublist (leadFrom w h i d) := by
  have bd := cnt_bd w h
  intro d
  induction d with
  | zero =>
    intro i k x ci ch hi hk hx c
    obtain ⟨k, rfl⟩ : ∃ m, k = m + 1 := ⟨k - 1, by omega⟩
    simp only [spec_l03Mesh.l0, spec_NodeCount_eq, Option.bind_some]
    rw [wrap64_id (x := 4 * cnt w h) (by omega) (by omega), if_neg (by omega)]
    exact ⟨[], ci, ch, by simp, c, by simp⟩
  | succ d ih =>
    intro i k x ci ch hi hk hx c
    obtain ⟨k, rfl⟩ : ∃ m, k = m + 1 := ⟨k - 1, by omega⟩
    simp only [spec_l03Mesh.l0, spec_NodeCount_eq, spec_l03Leads_eq, Option.bind_some]
    rw [wrap64_id (x := 4 * cnt w h) (by omega) (by omega), if_pos (by omega), leadFrom_succ]
    by_cases q : leads w h (i : Int) = true
    · rw [if_pos q, if_pos q]
      obtain ⟨r, i1, h1, e1, c1⟩ := once_ok (h := ch) c (show (0 : Int) < 9 by omega)
      rw [e1]
      simp only [Option.bind_some]
      by_cases z : r = true
      · rw [if_pos z, if_pos (by omega), w64s (by omega)]
        obtain ⟨s, ci', ch', e2, c2, sub⟩ := ih (i + 1) k (x ++ [(i : Int)]) i1 h1 (by omega) (by omega) (by simp; omega) c1
        exact ⟨(i : Int) :: s, ci', ch', by rw [e2]; simp, c2, sub.cons_cons _⟩
      · rw [if_neg z, w64s (by omega)]
        obtain ⟨s, ci', ch', e2, c2, sub⟩ := ih (i + 1) k x i1 h1 (by omega) (by omega) (by omega) c1
        exact ⟨s, ci', ch', e2, c2, sub.cons _⟩
    · rw [if_neg q, if_neg q, w64s (by omega)]
      exact ih (i + 1) k x ci ch (by omega) (by omega) (by omega) c
theorem mesh_ok {b : List Int} {i h : Int} (k : Nat) (hk : 100 < k) (c : Cur b i) : ∃ w' h' l i' g, spec_l03Mesh.f k b i h = some (w', h', l, i', g) ∧ Cur b i' ∧ w' ∈ [(1 : Int), 2, 3, 4] ∧ h' ∈ [(1 : Int), 2, 3, 4] ∧ l.Sublist (leadFrom w' h' 0 (4 * cnt w' h').toNat) := by
  unfold spec_l03Mesh.f
  obtain ⟨w, h', i1, g1, e1, c1, mw, mh⟩ := grid_ok (h := h) c
  rw [e1]
  simp only [Option.bind_some]
  obtain ⟨r, i2, g2, e2, c2⟩ := once_ok (h := g1) c1 (show (0 : Int) < 3 by omega)
  rw [e2]
  simp only [Option.bind_some]
  have bd := cnt_bd w h'
  by_cases z : r = true
  · rw [if_pos z]
    obtain ⟨s, ci', ch', e3, c3, sub⟩ := mesh_loop w h' b (4 * cnt w h').toNat 0 k [] i2 g2 (by omega) (by omega) (by simp) c2
    rw [show ((0 : Nat) : Int) = 0 from rfl] at e3
    exact ⟨w, h', s, ci', ch', by rw [e3]; simp, c3, mw, mh, sub⟩
  · rw [if_neg z]
    exact ⟨w, h', [], i2, g2, rfl, c2, mw, mh, by simp⟩
theorem leadFrom_sorted (w h : Int) (i d : Nat) : (leadFrom w h i d).Pairwise (· < ·) ∧ ∀ c ∈ leadFrom w h i d, (i : Int) ≤ c ∧ c < ((i + d : Nat) : Int) ∧ leads w h c = true := by
  induction d generalizing i with
  | zero => simp [leadFrom]
  | succ d ih =>
    have ih := ih (i + 1)
    rw [leadFrom_succ]
    by_cases q : leads w h (i : Int) = true
    · rw [if_pos q]
      refine ⟨List.pairwise_cons.2 ⟨fun c hc => ?_, ih.1⟩, fun c hc => ?_⟩
      · have := ih.2 c hc; omega
      · rcases List.mem_cons.1 hc with rfl | hc
        · exact ⟨by omega, by omega, q⟩
        · have := ih.2 c hc
          exact ⟨by omega, by omega, this.2.2⟩
    · rw [if_neg q]
      refine ⟨ih.1, fun c hc => ?_⟩
      have := ih.2 c hc
      exact ⟨by omega, by omega, this.2.2⟩
theorem brOk_of (w h : Int) : ∀ (l : List Int) (p : Option Int), l.Pairwise (· < ·) → (∀ c ∈ l, leads w h c = true) → (∀ q, p = some q → ∀ c ∈ l, q < c) → brOk w h p l = true
  | [], p, _, _, _ => by cases p <;> rfl
  | c :: r, p, hp, hl, hq => by
    have h1 := List.pairwise_cons.1 hp
    have e := brOk_of w h r (some c) h1.2 (fun x hx => hl x (List.mem_cons_of_mem _ hx)) (fun q hqq x hx => by cases hqq; exact h1.1 x hx)
    have hc := hl c (List.mem_cons_self ..)
    cases p with
    | none => simp only [brOk, e, hc]; rfl
    | some q =>
      have := hq q rfl c (List.mem_cons_self ..)
      simp only [brOk, e, hc, decide_eq_true this]; rfl
theorem meshOk_of {w h : Int} {l : List Int} (g : gok w h = true) (sub : l.Sublist (leadFrom w h 0 (4 * cnt w h).toNat)) : meshOk w h l = true := by
  have s := leadFrom_sorted w h 0 (4 * cnt w h).toNat
  unfold meshOk
  rw [g, brOk_of w h l none (s.1.sublist sub) (fun c hc => (s.2 c (sub.subset hc)).2.2) (fun q hq => by cases hq)]
  rfl
theorem sub_len_le {w h : Int} {l : List Int} (sub : l.Sublist (leadFrom w h 0 (4 * cnt w h).toNat)) : l.length ≤ 64 := by
  have b := cnt_bd w h
  have h1 := sub.length_le
  have h2 : (leadFrom w h 0 (4 * cnt w h).toNat).length ≤ (4 * cnt w h).toNat := by
    unfold leadFrom
    refine Nat.le_trans (List.length_filter_le _ _) ?_
    simp
  omega

theorem drawMesh_ok (b : List Int) (k : Nat) (hb : b.length ≤ 1048576) (hk : 4000 < k) : ∃ w h l, spec_DrawMesh.f k b = some (w, h, l) ∧ w ∈ [(1 : Int), 2, 3, 4] ∧ h ∈ [(1 : Int), 2, 3, 4] ∧ l.Sublist (leadFrom w h 0 (4 * cnt w h).toNat) := by
  unfold spec_DrawMesh.f
  obtain ⟨h0, e0, c0⟩ := new_ok b k hb hk
  rw [e0]
  simp only [Option.bind_some]
  obtain ⟨w, h, l, i, g, e1, _, m1, m2, sub⟩ := mesh_ok (h := h0) k (by omega) c0
  rw [e1]
  exact ⟨w, h, l, rfl, m1, m2, sub⟩

theorem sub_filter (L : List Int) : ∀ (l : List Int), l.Sublist L → L.Pairwise (· < ·) → (L.filter fun c => decide (c ∈ l)).length = l.length := by
  intro l sub
  induction sub with
  | slnil => intro _; simp
  | @cons l L a sub ih =>
    intro hp
    have h1 := List.pairwise_cons.1 hp
    have na : a ∉ l := fun ha => by have := h1.1 a (sub.subset ha); omega
    rw [List.filter_cons, if_neg (by simp [na])]
    exact ih h1.2
  | @cons_cons l L a sub ih =>
    intro hp
    have h1 := List.pairwise_cons.1 hp
    rw [List.filter_cons, if_pos (by simp)]
    have e : (L.filter fun c => decide (c ∈ a :: l)) = L.filter fun c => decide (c ∈ l) := by
      refine List.filter_congr fun c hc => ?_
      have : ¬ c = a := fun e => by have := h1.1 c hc; omega
      simp [this]
    rw [e]
    simp [ih h1.2]
theorem filter_split (L : List Int) (p : Int → Bool) : (L.filter p).length + (L.filter fun c => !p c).length = L.length := by
  induction L with
  | nil => rfl
  | cons a L ih =>
    rw [List.filter_cons, List.filter_cons]
    by_cases q : p a = true <;> simp [q] <;> omega
theorem chans_of {w h : Int} {l : List Int} (m : meshOk w h l = true) : chans w h l = (leadFrom w h 0 (4 * cnt w h).toNat).filter fun c => !decide (c ∈ l) := by
  unfold chans chFrom leadFrom
  rw [List.filter_filter]
  refine List.filter_congr fun c _ => ?_
  simp [hasC, m, Bool.and_comm]
def total (w h : Int) : Int := 2 * (w - 1) * h + 2 * w * (h - 1)
theorem total_all : ([1, 2, 3, 4] : List Int).all (fun w => ([1, 2, 3, 4] : List Int).all fun h => decide (((leadFrom w h 0 (4 * cnt w h).toNat).length : Int) = total w h)) = true := by decide +kernel
theorem chans_rises {w h : Int} {l : List Int} (m : meshOk w h l = true) : (chans w h l).Pairwise (· < ·) ∧ ∀ c ∈ chans w h l, hasC w h l c = true ∧ c ∉ l := by
  rw [chans_of m]
  have s := leadFrom_sorted w h 0 (4 * cnt w h).toNat
  refine ⟨s.1.sublist List.filter_sublist, fun c hc => ?_⟩
  have h1 := List.mem_filter.1 hc
  have h2 := s.2 c h1.1
  simp at h1
  exact ⟨by simp [hasC, m, h2.2.2, h1.2], h1.2⟩
theorem channels_loop (w h : Int) (l x : List Int) (hl : l.length ≤ 1048576) (hx : x.length ≤ 1048576) (mw : w ∈ [(1 : Int), 2, 3, 4]) (mh : h ∈ [(1 : Int), 2, 3, 4]) (m : meshOk w h l = true) (hr : x.Pairwise (· < ·)) (hm : ∀ c ∈ x, hasC w h l c = true ∧ c ∉ l) (ht : (x.length : Int) = total w h - l.length) :
    ∀ (d i k : Nat), i + d = x.length → 2 * d + 1048600 < k → laws_FnChannels.l0 k x w h (i : Int) w h l = some true := by
  intro d
  induction d with
  | zero =>
    intro i k hi hk
    obtain ⟨k, rfl⟩ : ∃ m, k = m + 1 := ⟨k - 1, by omega⟩
    simp only [laws_FnChannels.l0]
    rw [if_neg (by omega), impl_MeshOk_eq w h l k hl (by omega), m]
    simp only [Option.bind_some, if_true]
    congr 1
    unfold total at ht
    simp at mw mh
    rcases mw with rfl | rfl | rfl | rfl <;> rcases mh with rfl | rfl | rfl | rfl <;> simp [wrap64] <;> omega
  | succ d ih =>
    intro i k hi hk
    obtain ⟨k, rfl⟩ : ∃ m, k = m + 1 := ⟨k - 1, by omega⟩
    simp only [laws_FnChannels.l0]
    have hc := hm (rd x (i : Int)) (by rw [rd_nat x i (by omega)]; exact List.getElem_mem _)
    rw [if_pos (by omega), if_pos (by omega), impl_HasChannel_eq w h l _ k hl (by omega), hc.1]
    simp only [Option.bind_some, if_true]
    rw [has_eq l _ k hl (by omega)]
    simp only [Option.bind_some]
    rw [if_neg (by simpa using hc.2)]
    by_cases z : i = 0
    · subst z
      rw [if_neg (by simp), w64s (by omega)]
      exact ih 1 k (by omega) (by omega)
    · rw [if_pos (by omega), w64p (by omega) (by omega), if_pos (by omega), if_pos (by omega), w64s (by omega)]
      have hlt : rd x ((i - 1 : Nat) : Int) < rd x (i : Int) := by
        rw [rd_nat x i (by omega), rd_nat x (i - 1) (by omega)]
        exact List.pairwise_iff_getElem.1 hr (i - 1) i (by omega) (by omega) (by omega)
      rw [if_neg (by omega)]
      exact ih (i + 1) k (by omega) (by omega)
theorem FnChannels : laws_FnChannels.Pure := by
  intro b hm _ _
  obtain ⟨k, hk⟩ : ∃ k : Nat, 3000000 ≤ k := ⟨_, Nat.le_refl _⟩
  refine ⟨k, ?_⟩
  unfold laws_FnChannels.f
  rw [big_eq]
  simp only [Option.bind_some]
  by_cases hb : 1048576 < b.length
  · rw [if_pos (by simpa using hb)]
  · rw [if_neg (by simpa using hb)]
    obtain ⟨w, h, l, e1, mw, mh, sub⟩ := drawMesh_ok b k (by omega) (by omega)
    rw [e1]
    simp only [Option.bind_some]
    have g : gok w h = true := gok_iff.2 (by simp at mw mh; omega)
    have m := meshOk_of g sub
    have hl := sub_len_le sub
    have hx := chans_len w h l
    rw [impl_Channels_eq w h l k (by omega) (by omega)]
    simp only [Option.bind_some]
    have r := chans_rises m
    have s := leadFrom_sorted w h 0 (4 * cnt w h).toNat
    have ht : ((chans w h l).length : Int) = total w h - l.length := by
      have t := List.all_eq_true.1 (List.all_eq_true.1 total_all w mw) h mh
      have t := of_decide_eq_true t
      have f1 := filter_split (leadFrom w h 0 (4 * cnt w h).toNat) (fun c => decide (c ∈ l))
      have f2 := sub_filter _ l sub s.1
      rw [chans_of m]
      omega
    have e := channels_loop w h l (chans w h l) (by omega) (by omega) mw mh m r.1 r.2 ht (chans w h l).length 0 k (by omega) (by omega)
    exact e

end Go.Proofs.Ytohccnaellachab.Pure
