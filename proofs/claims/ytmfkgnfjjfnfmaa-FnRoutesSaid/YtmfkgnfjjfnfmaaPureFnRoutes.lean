/- What is proved: the statement FnRoutes, in its pure form, over numbers and lists: a drawn route has one node more than channels, and its reversal leads back along the same nodes, for every draw (no conditions). -/
import Derived.Test.YtmfkgnfjjfnfmaaXR4
import Derived.Test.YtmfkgnfjjfnfmaaModel
set_option linter.unusedVariables false
set_option linter.unusedSimpArgs false
namespace Go.Proofs.Ytmfkgnfjjfnfmaa.Pure
open Go.RowKit Go.Proofs.Ytmfkgnfjjfnfmaa.XR Go.Proofs.Ytmfkgnfjjfnfmaa.M Go.Proofs.YtmfkgnfjjfnfmaaW.PrintWords Go.Proofs.YtmfkgnfjjfnfmaaW.PrintLast
theorem rd_nat (l : List Int) (i : Nat) (h : i < l.length) : rd l (i : Int) = l[i] := by unfold rd; simp [h]
theorem drop_rd (l : List Int) (i : Nat) (h : i < l.length) : l.drop i = rd l (i : Int) :: l.drop (i + 1) := by
  rw [rd_nat l i h]; exact List.drop_eq_getElem_cons h
theorem w64s {i : Nat} (h : i ≤ 9223372036854775806) : wrap64 ((i : Int) + 1) = ((i + 1 : Nat) : Int) := by rw [wrap64_id (by omega) (by omega)]; omega
theorem w64p {i : Nat} (h : i ≤ 9223372036854775806) (h0 : 0 < i) : wrap64 ((i : Int) - 1) = ((i - 1 : Nat) : Int) := by rw [wrap64_id (by omega) (by omega)]; omega

theorem impl_inside_eq (a b c : Int) : impl_inside.f a b c = some (inR a b c) := by
  unfold impl_inside.f inR
  by_cases h : b ≤ a <;> simp [h]

theorem impl_GridOk_eq (w h : Int) : impl_GridOk.f w h = some (gok w h) := by
  unfold impl_GridOk.f gok
  simp only [impl_inside_eq, Option.bind_some]
  cases inR w 1 4 <;> rfl

theorem impl_NodeCount_eq (w h : Int) : impl_NodeCount.f w h = some (cnt w h) := by
  unfold impl_NodeCount.f
  simp only [impl_GridOk_eq, Option.bind_some]
  by_cases g : gok w h = true
  · have b := cnt_bd w h
    rw [if_pos g, cnt_ok g]
    rw [cnt_ok g] at b
    rw [wrap64_id (by omega) (by omega)]
  · rw [if_neg g, cnt_no (by simpa using g)]

theorem impl_isNode_eq (w h n : Int) : impl_isNode.f w h n = some (nd w h n) := by
  have b := cnt_bd w h
  unfold impl_isNode.f nd
  simp only [impl_NodeCount_eq, impl_inside_eq, Option.bind_some]
  rw [wrap64_id (by omega) (by omega)]

theorem impl_NodeAt_eq (w h x y : Int) : impl_NodeAt.f w h x y = some (natx w h x y) := by
  unfold impl_NodeAt.f natx
  simp only [impl_GridOk_eq, impl_inside_eq, Option.bind_some]
  by_cases g : gok w h = true
  · have b := gok_iff.1 g
    rw [if_pos g, wrap64_id (x := w - 1) (by omega) (by omega), wrap64_id (x := h - 1) (by omega) (by omega)]
    by_cases hx : inR x 0 (w - 1) = true
    · rw [if_pos hx]
      by_cases hy : inR y 0 (h - 1) = true
      · rw [if_pos hy, if_pos (by simp [g, hx, hy])]
        rw [inR_iff] at hx hy
        have e : wrap64 (y * w) = y * w := by rcases w4 g with rfl | rfl | rfl | rfl <;> exact wrap64_id (by omega) (by omega)
        have e2 : wrap64 (y * w + x) = y * w + x := by rcases w4 g with rfl | rfl | rfl | rfl <;> exact wrap64_id (by omega) (by omega)
        rw [e, e2]
      · rw [if_neg hy, if_neg (by simp [hy])]
    · rw [if_neg hx, if_neg (by simp [hx])]
  · rw [if_neg g, if_neg (by simp [g])]

theorem impl_NextNode_eq (w h n p : Int) : impl_NextNode.f w h n p = some (nxt w h n p) := by
  unfold impl_NextNode.f nxt
  simp only [impl_isNode_eq, Option.bind_some]
  by_cases d : nd w h n = true
  · have b := nd_bd d
    rw [if_pos d, if_pos d, if_neg (by omega)]
    simp only [impl_NodeAt_eq, Option.bind_some, tmod_of (show 0 ≤ n by omega), tdiv_of (show 0 ≤ n by omega)]
    rw [wrap64_id (x := n / w) (by omega) (by omega), wrap64_id (x := n / w - 1) (by omega) (by omega), wrap64_id (x := n / w + 1) (by omega) (by omega), wrap64_id (x := n % w + 1) (by omega) (by omega), wrap64_id (x := n % w - 1) (by omega) (by omega)]
    repeat' split
    all_goals rfl
  · rw [if_neg d, if_neg d]

theorem impl_Opposite_eq (p : Int) : impl_Opposite.f p = some (opp p) := by
  unfold impl_Opposite.f opp
  simp only [impl_inside_eq, Option.bind_some]
  by_cases h4 : p = 4
  · rw [if_pos h4, if_pos h4]
  · rw [if_neg h4, if_neg h4]
    by_cases r : inR p 0 3 = true
    · have b := inR_iff.1 r
      rw [if_pos r, if_pos r, wrap64_id (by omega) (by omega), tmod_of (by omega)]
    · rw [if_neg r, if_neg r]

theorem impl_leads_eq (w h c : Int) : impl_leads.f w h c = some (leads w h c) := by
  have b := cnt_bd w h
  unfold impl_leads.f leads
  simp only [impl_NodeCount_eq, impl_inside_eq, Option.bind_some, impl_NextNode_eq]
  rw [wrap64_id (x := 4 * cnt w h) (by omega) (by omega), wrap64_id (by omega) (by omega)]
  by_cases r : inR c 0 (4 * cnt w h - 1) = true
  · have b := inR_iff.1 r
    rw [if_pos r, tdiv_of (by omega), wrap64_id (by omega) (by omega), tmod_of (by omega), r]
    rfl
  · rw [if_neg r]
    simp [r]

theorem spec_l01In_eq (a b c : Int) : spec_l01In.f a b c = some (inR a b c) := by
  unfold spec_l01In.f inR
  by_cases h : b ≤ a <;> simp [h]

theorem spec_GridOk_eq (w h : Int) : spec_GridOk.f w h = some (gok w h) := by
  unfold spec_GridOk.f gok
  simp only [spec_l01In_eq, Option.bind_some]
  cases inR w 1 4 <;> rfl

theorem spec_NodeCount_eq (w h : Int) : spec_NodeCount.f w h = some (cnt w h) := by
  unfold spec_NodeCount.f
  simp only [spec_GridOk_eq, Option.bind_some]
  by_cases g : gok w h = true
  · have b := cnt_bd w h
    rw [if_pos g, cnt_ok g]
    rw [cnt_ok g] at b
    rw [wrap64_id (by omega) (by omega)]
  · rw [if_neg g, cnt_no (by simpa using g)]

theorem spec_l02Has_eq (w h n : Int) : spec_l02Has.f w h n = some (nd w h n) := by
  have b := cnt_bd w h
  unfold spec_l02Has.f nd
  simp only [spec_NodeCount_eq, spec_l01In_eq, Option.bind_some]
  rw [wrap64_id (by omega) (by omega)]

theorem spec_NodeAt_eq (w h x y : Int) : spec_NodeAt.f w h x y = some (natx w h x y) := by
  unfold spec_NodeAt.f natx
  simp only [spec_GridOk_eq, spec_l01In_eq, Option.bind_some]
  by_cases g : gok w h = true
  · have b := gok_iff.1 g
    rw [if_pos g, wrap64_id (x := w - 1) (by omega) (by omega), wrap64_id (x := h - 1) (by omega) (by omega)]
    by_cases hx : inR x 0 (w - 1) = true
    · rw [if_pos hx]
      by_cases hy : inR y 0 (h - 1) = true
      · rw [if_pos hy, if_pos (by simp [g, hx, hy])]
        rw [inR_iff] at hx hy
        have e : wrap64 (y * w) = y * w := by rcases w4 g with rfl | rfl | rfl | rfl <;> exact wrap64_id (by omega) (by omega)
        have e2 : wrap64 (y * w + x) = y * w + x := by rcases w4 g with rfl | rfl | rfl | rfl <;> exact wrap64_id (by omega) (by omega)
        rw [e, e2]
      · rw [if_neg hy, if_neg (by simp [hy])]
    · rw [if_neg hx, if_neg (by simp [hx])]
  · rw [if_neg g, if_neg (by simp [g])]

theorem spec_NextNode_eq (w h n p : Int) : spec_NextNode.f w h n p = some (nxt w h n p) := by
  unfold spec_NextNode.f nxt
  simp only [spec_l02Has_eq, Option.bind_some]
  by_cases d : nd w h n = true
  · have b := nd_bd d
    rw [if_pos d, if_pos d, if_neg (by omega)]
    simp only [spec_NodeAt_eq, Option.bind_some, tmod_of (show 0 ≤ n by omega), tdiv_of (show 0 ≤ n by omega)]
    rw [wrap64_id (x := n / w) (by omega) (by omega), wrap64_id (x := n / w - 1) (by omega) (by omega), wrap64_id (x := n / w + 1) (by omega) (by omega), wrap64_id (x := n % w + 1) (by omega) (by omega), wrap64_id (x := n % w - 1) (by omega) (by omega)]
    repeat' split
    all_goals rfl
  · rw [if_neg d, if_neg d]

theorem spec_l03Leads_eq (w h c : Int) : spec_l03Leads.f w h c = some (leads w h c) := by
  have b := cnt_bd w h
  unfold spec_l03Leads.f leads
  simp only [spec_NodeCount_eq, spec_l01In_eq, Option.bind_some, spec_NextNode_eq]
  rw [wrap64_id (x := 4 * cnt w h) (by omega) (by omega), wrap64_id (by omega) (by omega)]
  by_cases r : inR c 0 (4 * cnt w h - 1) = true
  · have b := inR_iff.1 r
    rw [if_pos r, tdiv_of (by omega), wrap64_id (by omega) (by omega), tmod_of (by omega), r]
    rfl
  · rw [if_neg r]
    simp [r]

theorem impl_MeshOk_loop (w h : Int) (l : List Int) (hn : l.length ≤ 9223372036854775806) : ∀ (d i k : Nat), i + d = l.length → d < k → impl_MeshOk.l0 k l (l.length : Int) (i : Int) w h l = some (brOk w h (if i = 0 then none else some (rd l ((i - 1 : Nat) : Int))) (l.drop i) && gok w h) := by
  intro d
  induction d with
  | zero =>
    intro i k hi hk
    obtain ⟨k, rfl⟩ : ∃ m, k = m + 1 := ⟨k - 1, by omega⟩
    simp only [impl_MeshOk.l0]
    rw [if_neg (by omega), impl_GridOk_eq, List.drop_eq_nil_of_le (by omega)]
    simp [brOk]
  | succ d ih =>
    intro i k hi hk
    obtain ⟨k, rfl⟩ : ∃ m, k = m + 1 := ⟨k - 1, by omega⟩
    simp only [impl_MeshOk.l0]
    rw [if_pos (by omega), if_pos (by omega), if_pos (by omega), impl_leads_eq, drop_rd l i (by omega)]
    simp only [Option.bind_some]
    by_cases c : leads w h (rd l (i : Int)) = true
    · rw [if_pos c]
      have e := ih (i + 1) k (by omega) (by omega)
      rw [if_neg (by omega), show i + 1 - 1 = i from by omega] at e
      by_cases z : i = 0
      · subst z
        rw [if_neg (by simp), w64s (by omega), e, if_pos rfl]
        simp only [brOk, c, Bool.true_and]
      · rw [if_pos (by omega), w64p (by omega) (by omega), if_pos (by omega), if_pos (by omega), if_neg z]
        by_cases q : rd l ((i - 1 : Nat) : Int) ≥ rd l (i : Int)
        · rw [if_pos q]
          simp only [brOk]
          rw [show decide (rd l ((i - 1 : Nat) : Int) < rd l (i : Int)) = false from decide_eq_false (by omega)]
          simp
        · rw [if_neg q, w64s (by omega), e]
          simp only [brOk]
          rw [show decide (rd l ((i - 1 : Nat) : Int) < rd l (i : Int)) = true from decide_eq_true (by omega), c]
          simp
    · rw [if_neg c]
      have c' : leads w h (rd l (i : Int)) = false := by simpa using c
      by_cases z : i = 0
      · rw [if_pos z]; simp only [brOk, c', Bool.false_and]
      · rw [if_neg z]; simp only [brOk, c', Bool.false_and]
theorem impl_MeshOk_eq (w h : Int) (l : List Int) (k : Nat) (hl : l.length ≤ 1048576) (hk : 1048577 < k) : impl_MeshOk.f k w h l = some (meshOk w h l) := by
  unfold impl_MeshOk.f
  have e := impl_MeshOk_loop w h l (by omega) l.length 0 k (by omega) (by omega)
  rw [show ((0 : Nat) : Int) = 0 from rfl] at e
  rw [e]
  simp [meshOk, Bool.and_comm]

theorem l03Find_loop (l : List Int) (c : Int) (hn : l.length ≤ 9223372036854775806) : ∀ (d i k : Nat), i + d = l.length → d < k → spec_l03Find.l0 k l c (i : Int) = some (decide (c ∈ l.drop i)) := by
  intro d
  induction d with
  | zero =>
    intro i k hi hk
    obtain ⟨k, rfl⟩ : ∃ m, k = m + 1 := ⟨k - 1, by omega⟩
    simp only [spec_l03Find.l0]
    rw [if_neg (by omega), List.drop_eq_nil_of_le (by omega)]
    simp
  | succ d ih =>
    intro i k hi hk
    obtain ⟨k, rfl⟩ : ∃ m, k = m + 1 := ⟨k - 1, by omega⟩
    simp only [spec_l03Find.l0]
    rw [if_pos (by omega), if_pos (by omega), drop_rd l i (by omega)]
    by_cases q : rd l (i : Int) = c
    · rw [if_pos q]; simp [q]
    · rw [if_neg q, w64s (by omega), ih (i + 1) k (by omega) (by omega)]
      have : ¬ c = rd l (i : Int) := fun e => q e.symm
      simp [this]
theorem l03Find_eq (l : List Int) (c : Int) (k : Nat) (hl : l.length ≤ 1048576) (hk : 1048577 < k) : spec_l03Find.f k l c = some (decide (c ∈ l)) := by
  unfold spec_l03Find.f
  have e := l03Find_loop l c (by omega) l.length 0 k (by omega) (by omega)
  simpa using e

theorem slicesIndex_loop (l : List Int) (c : Int) (hn : l.length ≤ 9223372036854775806) : ∀ (d i k : Nat), i + d = l.length → d < k → ∃ r, slices_Index_int_int.l0 k l c (l.length : Int) (i : Int) = some r ∧ (0 ≤ r ↔ c ∈ l.drop i) := by
  intro d
  induction d with
  | zero =>
    intro i k hi hk
    obtain ⟨k, rfl⟩ : ∃ m, k = m + 1 := ⟨k - 1, by omega⟩
    simp only [slices_Index_int_int.l0]
    rw [if_neg (by omega), List.drop_eq_nil_of_le (by omega)]
    exact ⟨-1, rfl, by simp⟩
  | succ d ih =>
    intro i k hi hk
    obtain ⟨k, rfl⟩ : ∃ m, k = m + 1 := ⟨k - 1, by omega⟩
    simp only [slices_Index_int_int.l0]
    rw [if_pos (by omega), if_pos (by omega), if_pos (by omega), drop_rd l i (by omega)]
    by_cases q : c = rd l (i : Int)
    · rw [if_pos q]; exact ⟨_, rfl, by simp [q]⟩
    · rw [if_neg q, w64s (by omega)]
      obtain ⟨r, h1, h2⟩ := ih (i + 1) k (by omega) (by omega)
      exact ⟨r, h1, by simp [q, h2]⟩
theorem slicesContains_eq (l : List Int) (c : Int) (k : Nat) (hl : l.length ≤ 1048576) (hk : 1048577 < k) : slices_Contains_int_int.f k l c = some (decide (c ∈ l)) := by
  unfold slices_Contains_int_int.f slices_Index_int_int.f
  obtain ⟨r, h1, h2⟩ := slicesIndex_loop l c (by omega) l.length 0 k (by omega) (by omega)
  rw [show ((0 : Nat) : Int) = 0 from rfl] at h1
  rw [h1]
  simp only [Option.bind_some]
  congr 1
  simpa using h2

theorem l03Has_eq (w h : Int) (l : List Int) (c : Int) (k : Nat) (hl : l.length ≤ 1048576) (hk : 1048577 < k) : spec_l03Has.f k w h l c = some (leads w h c && !decide (c ∈ l)) := by
  unfold spec_l03Has.f
  rw [spec_l03Leads_eq, l03Find_eq l c k hl hk]
  simp only [Option.bind_some]
  by_cases q : leads w h c = true <;> simp [q]

theorem impl_HasChannel_eq (w h : Int) (l : List Int) (c : Int) (k : Nat) (hl : l.length ≤ 1048576) (hk : 1048577 < k) : impl_HasChannel.f k w h l c = some (hasC w h l c) := by
  unfold impl_HasChannel.f
  rw [impl_MeshOk_eq w h l k hl hk, impl_leads_eq, slicesContains_eq l c k hl hk]
  simp only [Option.bind_some]
  by_cases q : meshOk w h l = true
  · by_cases q2 : leads w h c = true <;> simp [q, q2, hasC]
  · simp [q, hasC]

theorem i64_and255 (n : Int) : bits .and .i64 n 255 = n % 256 := by
  have h : (BitVec.ofInt 64 255).toNat = 2 ^ 8 - 1 := by decide
  have key : (BitVec.ofInt 64 n &&& BitVec.ofInt 64 255).toNat = (n % ((2 ^ 64 : Nat) : Int)).toNat % 2 ^ 8 := by
    rw [BitVec.toNat_and, BitVec.toNat_ofInt, h, Nat.and_two_pow_sub_one_eq_mod]
  show IntKind.i64.wrap ((BitVec.ofInt 64 n &&& BitVec.ofInt 64 255).toNat : Nat) = n % 256
  rw [key, IntKind.wrap_i64]
  omega
/-- the cursor: a place in the bytes -/
def Cur (b : List Int) (i : Int) : Prop := b.length ≤ 1048576 ∧ 0 ≤ i ∧ i ≤ b.length
theorem byte_ok {b : List Int} {i h : Int} (c : Cur b i) : ∃ r i' h', spec_l01Byte.f b i h = some (r, i', h') ∧ Cur b i' ∧ 0 ≤ r ∧ r ≤ 255 := by
  obtain ⟨c0, c1, c2⟩ := c
  unfold spec_l01Byte.f
  by_cases q : i < (b.length : Int)
  · rw [if_pos q, if_pos c1]
    refine ⟨_, _, _, rfl, ⟨c0, ?_, ?_⟩, ?_, ?_⟩
    · rw [wrap64_id (by omega) (by omega)]; omega
    · rw [wrap64_id (by omega) (by omega)]; omega
    · rw [i64_and255]; omega
    · rw [i64_and255]; omega
  · rw [if_neg q]
    refine ⟨_, _, _, rfl, ⟨c0, c1, c2⟩, ?_, ?_⟩
    · rw [i64_and255]; omega
    · rw [i64_and255]; omega

theorem below_ok {b : List Int} {i h n : Int} (c : Cur b i) (hn : 0 < n) : ∃ r i' h', spec_l01Below.f b i h n = some (r, i', h') ∧ Cur b i' ∧ 0 ≤ r ∧ r < n := by
  unfold spec_l01Below.f
  rw [if_neg (show ¬ n ≤ 0 by omega)]
  by_cases q : n ≤ 256
  · rw [if_pos q]
    obtain ⟨r, i', h', e, c', r0, r1⟩ := byte_ok (h := h) c
    rw [e]
    simp only [Option.bind_some]
    rw [if_neg (show ¬ n = 0 by omega), tmod_of r0]
    exact ⟨_, _, _, rfl, c', Int.emod_nonneg _ (by omega), Int.emod_lt_of_pos _ hn⟩
  · rw [if_neg q]
    obtain ⟨r1, i1, h1, e1, c1, a1, b1⟩ := byte_ok (h := h) c
    rw [e1]
    simp only [Option.bind_some]
    obtain ⟨r2, i2, h2, e2, c2, a2, b2⟩ := byte_ok (h := h1) c1
    rw [e2]
    simp only [Option.bind_some]
    obtain ⟨r3, i3, h3, e3, c3, a3, b3⟩ := byte_ok (h := h2) c2
    rw [e3]
    simp only [Option.bind_some]
    obtain ⟨r4, i4, h4, e4, c4, a4, b4⟩ := byte_ok (h := h3) c3
    rw [e4]
    simp only [Option.bind_some]
    rw [if_neg (show ¬ n = 0 by omega), wrap64_id (x := r1 * 16777216) (by omega) (by omega), wrap64_id (x := r2 * 65536) (by omega) (by omega), wrap64_id (x := r3 * 256) (by omega) (by omega), wrap64_id (x := r1 * 16777216 + r2 * 65536) (by omega) (by omega), wrap64_id (x := r1 * 16777216 + r2 * 65536 + r3 * 256) (by omega) (by omega), wrap64_id (by omega) (by omega), tmod_of (by omega)]
    exact ⟨_, _, _, rfl, c4, Int.emod_nonneg _ (by omega), Int.emod_lt_of_pos _ hn⟩
theorem below0_ok {b : List Int} {i h n : Int} (c : Cur b i) (hn : n ≤ 0) : spec_l01Below.f b i h n = some (0, i, h) := by
  unfold spec_l01Below.f
  rw [if_pos hn]

theorem once_ok {b : List Int} {i h n : Int} (c : Cur b i) (hn : 0 < n) : ∃ r i' h', spec_l01Once.f b i h n = some (r, i', h') ∧ Cur b i' := by
  unfold spec_l01Once.f
  obtain ⟨r, i', h', e, c', _, _⟩ := below_ok (h := h) c hn
  rw [e]
  exact ⟨_, _, _, rfl, c'⟩

theorem pick_ok {b : List Int} {i h : Int} {l : List Int} (c : Cur b i) (hl : 0 < l.length) : ∃ r i' h', spec_l01PickInt.f b i h l = some (r, i', h') ∧ Cur b i' ∧ r ∈ l := by
  unfold spec_l01PickInt.f
  obtain ⟨r, i', h', e, c', r0, r1⟩ := below_ok (h := h) c (show 0 < (l.length : Int) by omega)
  rw [e]
  simp only [Option.bind_some]
  rw [if_pos r0, if_pos r1]
  refine ⟨_, _, _, rfl, c', ?_⟩
  obtain ⟨n, rfl⟩ := Int.eq_ofNat_of_zero_le r0
  rw [rd_nat l n (by omega)]
  exact List.getElem_mem _

theorem new_loop (b : List Int) : ∀ (d i k : Nat) (h : Int), i + d = 4000 → d < k → ∃ h', spec_l01New.l0 k b h (i : Int) = some (b, 0, h') := by
  intro d
  induction d with
  | zero =>
    intro i k h hi hk
    obtain ⟨k, rfl⟩ : ∃ m, k = m + 1 := ⟨k - 1, by omega⟩
    simp only [spec_l01New.l0]
    by_cases q : (i : Int) < (b.length : Int)
    · rw [if_pos q, if_neg (by omega)]; exact ⟨_, rfl⟩
    · rw [if_neg q]; exact ⟨_, rfl⟩
  | succ d ih =>
    intro i k h hi hk
    obtain ⟨k, rfl⟩ : ∃ m, k = m + 1 := ⟨k - 1, by omega⟩
    simp only [spec_l01New.l0]
    by_cases q : (i : Int) < (b.length : Int)
    · rw [if_pos q, if_pos (by omega), if_pos (by omega), w64s (by omega)]
      exact ih (i + 1) k _ (by omega) (by omega)
    · rw [if_neg q]; exact ⟨_, rfl⟩
theorem new_ok (b : List Int) (k : Nat) (hb : b.length ≤ 1048576) (hk : 4000 < k) : ∃ h, spec_l01New.f k b = some (b, 0, h) ∧ Cur b 0 := by
  unfold spec_l01New.f
  obtain ⟨h, e⟩ := new_loop b 4000 0 k (wrap64 (98459 + (b.length : Int))) (by omega) (by omega)
  exact ⟨h, e, hb, by omega, by omega⟩

theorem big_eq (l : List Int) : laws_big.f l = some (decide (1048576 < l.length)) := by
  unfold laws_big.f
  congr 1
  simp
  omega

theorem grid_ok {b : List Int} {i h : Int} (c : Cur b i) : ∃ w' h' i' g, spec_l02Grid.f b i h = some (w', h', i', g) ∧ Cur b i' ∧ w' ∈ [(1 : Int), 2, 3, 4] ∧ h' ∈ [(1 : Int), 2, 3, 4] := by
  unfold spec_l02Grid.f
  obtain ⟨r1, i1, h1, e1, c1, m1⟩ := pick_ok (h := h) (l := [1, 2, 2, 3, 3, 4]) c (by simp)
  rw [e1]
  simp only [Option.bind_some]
  obtain ⟨r2, i2, h2, e2, c2, m2⟩ := pick_ok (h := h1) (l := [1, 2, 2, 3, 3, 4]) c1 (by simp)
  rw [e2]
  refine ⟨_, _, _, _, rfl, c2, ?_, ?_⟩
  · simp at m1 ⊢; omega
  · simp at m2 ⊢; omega

def stdG (w h r : Int) (i : Nat) : Int := stdP w r ((i / (cnt w h).toNat : Nat) : Int) ((i % (cnt w h).toNat : Nat) : Int)
def stdT (w h r : Int) : List Int := (List.range ((cnt w h).toNat * (cnt w h).toNat)).map (stdG w h r)
theorem stdT_len (w h r : Int) : (stdT w h r).length = (cnt w h).toNat * (cnt w h).toNat := by simp [stdT]
theorem cnt_sq (w h : Int) : (cnt w h).toNat * (cnt w h).toNat ≤ 256 ∧ (((cnt w h).toNat * (cnt w h).toNat : Nat) : Int) = cnt w h * cnt w h := by
  have b := cnt_bd w h
  obtain ⟨n, hn⟩ : ∃ n : Nat, cnt w h = n := ⟨(cnt w h).toNat, by omega⟩
  rw [hn] at b ⊢
  simp only [Int.toNat_natCast]
  refine ⟨?_, by simp⟩
  have : n ≤ 16 := by omega
  exact Nat.mul_le_mul this this

def leadFrom (w h : Int) (i d : Nat) : List Int := ((List.range' i d).map fun (j : Nat) => (j : Int)).filter (leads w h)
theorem leadFrom_succ (w h : Int) (i d : Nat) : leadFrom w h i (d + 1) = if leads w h (i : Int) = true then (i : Int) :: leadFrom w h (i + 1) d else leadFrom w h (i + 1) d := by
  unfold leadFrom
  rw [List.range'_succ, List.map_cons, List.filter_cons]
theorem mesh_loop (w h : Int) (b : List Int) : ∀ (d i k : Nat) (x : List Int) (ci ch : Int), ((i + d : Nat) : Int) = 4 * cnt w h → d < k → x.length ≤ i → Cur b ci → ∃ s ci' ch', spec_l03Mesh.l0 k (i : Int) b ci ch w h x = some (w, h, x ++ s, ci', ch') ∧ Cur b ci' ∧ s.Sublist (leadFrom w h i d) := by
  have bd := cnt_bd w h
  intro d
  induction d with
  | zero =>
    intro i k x ci ch hi hk hx c
    obtain ⟨k, rfl⟩ : ∃ m, k = m + 1 := ⟨k - 1, by omega⟩
    simp only [spec_l03Mesh.l0, spec_NodeCount_eq, Option.bind_some]
    rw [wrap64_id (x := 4 * cnt w h) (by omega) (by omega), if_neg (by omega)]
    exact ⟨[], ci, ch, by simp, c, by simp⟩
  | succ d ih =>
    intro i k x ci ch hi hk hx c
    obtain ⟨k, rfl⟩ : ∃ m, k = m + 1 := ⟨k - 1, by omega⟩
    simp only [spec_l03Mesh.l0, spec_NodeCount_eq, spec_l03Leads_eq, Option.bind_some]
    rw [wrap64_id (x := 4 * cnt w h) (by omega) (by omega), if_pos (by omega), leadFrom_succ]
    by_cases q : leads w h (i : Int) = true
    · rw [if_pos q, if_pos q]
      obtain ⟨r, i1, h1, e1, c1⟩ := once_ok (h := ch) c (show (0 : Int) < 9 by omega)
      rw [e1]
      simp only [Option.bind_some]
      by_cases z : r = true
      · rw [if_pos z, if_pos (by omega), w64s (by omega)]
        obtain ⟨s, ci', ch', e2, c2, sub⟩ := ih (i + 1) k (x ++ [(i : Int)]) i1 h1 (by omega) (by omega) (by simp; omega) c1
        exact ⟨(i : Int) :: s, ci', ch', by rw [e2]; simp, c2, sub.cons_cons _⟩
      · rw [if_neg z, w64s (by omega)]
        obtain ⟨s, ci', ch', e2, c2, sub⟩ := ih (i + 1) k x i1 h1 (by omega) (by omega) (by omega) c1
        exact ⟨s, ci', ch', e2, c2, sub.cons _⟩
    · rw [if_neg q, if_neg q, w64s (by omega)]
      exact ih (i + 1) k x ci ch (by omega) (by omega) (by omega) c
theorem mesh_ok {b : List Int} {i h : Int} (k : Nat) (hk : 100 < k) (c : Cur b i) : ∃ w' h' l i' g, spec_l03Mesh.f k b i h = some (w', h', l, i', g) ∧ Cur b i' ∧ w' ∈ [(1 : Int), 2, 3, 4] ∧ h' ∈ [(1 : Int), 2, 3, 4] ∧ l.Sublist (leadFrom w' h' 0 (4 * cnt w' h').toNat) := by
  unfold spec_l03Mesh.f
  obtain ⟨w, h', i1, g1, e1, c1, mw, mh⟩ := grid_ok (h := h) c
  rw [e1]
  simp only [Option.bind_some]
  obtain ⟨r, i2, g2, e2, c2⟩ := once_ok (h := g1) c1 (show (0 : Int) < 3 by omega)
  rw [e2]
  simp only [Option.bind_some]
  have bd := cnt_bd w h'
  by_cases z : r = true
  · rw [if_pos z]
    obtain ⟨s, ci', ch', e3, c3, sub⟩ := mesh_loop w h' b (4 * cnt w h').toNat 0 k [] i2 g2 (by omega) (by omega) (by simp) c2
    rw [show ((0 : Nat) : Int) = 0 from rfl] at e3
    exact ⟨w, h', s, ci', ch', by rw [e3]; simp, c3, mw, mh, sub⟩
  · rw [if_neg z]
    exact ⟨w, h', [], i2, g2, rfl, c2, mw, mh, by simp⟩
theorem leadFrom_sorted (w h : Int) (i d : Nat) : (leadFrom w h i d).Pairwise (· < ·) ∧ ∀ c ∈ leadFrom w h i d, (i : Int) ≤ c ∧ c < ((i + d : Nat) : Int) ∧ leads w h c = true := by
  induction d generalizing i with
  | zero => simp [leadFrom]
  | succ d ih =>
    have ih := ih (i + 1)
    rw [leadFrom_succ]
    by_cases q : leads w h (i : Int) = true
    · rw [if_pos q]
      refine ⟨List.pairwise_cons.2 ⟨fun c hc => ?_, ih.1⟩, fun c hc => ?_⟩
      · have := ih.2 c hc; omega
      · rcases List.mem_cons.1 hc with rfl | hc
        · exact ⟨by omega, by omega, q⟩
        · have := ih.2 c hc
          exact ⟨by omega, by omega, this.2.2⟩
    · rw [if_neg q]
      refine ⟨ih.1, fun c hc => ?_⟩
      have := ih.2 c hc
      exact ⟨by omega, by omega, this.2.2⟩
theorem brOk_of (w h : Int) : ∀ (l : List Int) (p : Option Int), l.Pairwise (· < ·) → (∀ c ∈ l, leads w h c = true) → (∀ q, p = some q → ∀ c ∈ l, q < c) → brOk w h p l = true
  | [], p, _, _, _ => by cases p <;> rfl
  | c :: r, p, hp, hl, hq => by
    have h1 := List.pairwise_cons.1 hp
    have e := brOk_of w h r (some c) h1.2 (fun x hx => hl x (List.mem_cons_of_mem _ hx)) (fun q hqq x hx => by cases hqq; exact h1.1 x hx)
    have hc := hl c (List.mem_cons_self ..)
    cases p with
    | none => simp only [brOk, e, hc]; rfl
    | some q =>
      have := hq q rfl c (List.mem_cons_self ..)
      simp only [brOk, e, hc, decide_eq_true this]; rfl
theorem meshOk_of {w h : Int} {l : List Int} (g : gok w h = true) (sub : l.Sublist (leadFrom w h 0 (4 * cnt w h).toNat)) : meshOk w h l = true := by
  have s := leadFrom_sorted w h 0 (4 * cnt w h).toNat
  unfold meshOk
  rw [g, brOk_of w h l none (s.1.sublist sub) (fun c hc => (s.2 c (sub.subset hc)).2.2) (fun q hq => by cases hq)]
  rfl
theorem sub_len_le {w h : Int} {l : List Int} (sub : l.Sublist (leadFrom w h 0 (4 * cnt w h).toNat)) : l.length ≤ 64 := by
  have b := cnt_bd w h
  have h1 := sub.length_le
  have h2 : (leadFrom w h 0 (4 * cnt w h).toNat).length ≤ (4 * cnt w h).toNat := by
    unfold leadFrom
    refine Nat.le_trans (List.length_filter_le _ _) ?_
    simp
  omega

theorem impl_endOf_eq (w h : Int) (l : List Int) (c : Int) (h0 : 0 ≤ c) (h1 : c ≤ 1000) : impl_endOf.f w h l c = some (nxt w h (c / 4) (c % 4)) := by
  unfold impl_endOf.f
  rw [tmod_of h0, tdiv_of h0, wrap64_id (by omega) (by omega), impl_NextNode_eq]
  rfl

/-- the nodes of a route, channel by channel -/
def rts (w h : Int) (l : List Int) : List Int → List Int → List Int
  | [], out => out
  | c :: r, out => if (hasC w h l c && (decide (out.length = 0) || decide (c / 4 = rd out ((out.length : Int) - 1)))) = true then rts w h l r ((if out.length = 0 then [c / 4] else out) ++ [nxt w h (c / 4) (c % 4)]) else []
theorem hasC_bd {w h : Int} {l : List Int} {c : Int} (q : hasC w h l c = true) : meshOk w h l = true ∧ (leads w h c && !decide (c ∈ l)) = true ∧ 0 ≤ c ∧ c < 64 := by
  unfold hasC at q
  have q2 : (leads w h c && !decide (c ∈ l)) = true := by simp only [Bool.and_eq_true] at q ⊢; exact q.2
  simp only [Bool.and_eq_true] at q
  have := leads_iff.1 q.2.1
  have := cnt_bd w h
  exact ⟨q.1, q2, by omega, by omega⟩
theorem impl_RouteNodes_loop (w h : Int) (l p : List Int) (hl : l.length ≤ 1048576) (hp : p.length ≤ 2097152) : ∀ (d i k : Nat) (out : List Int), i + d = p.length → 1048600 + 2 * d < k → (out.length = if i = 0 then 0 else i + 1) → impl_RouteNodes.l0 k out p (p.length : Int) (i : Int) w h l = some (rts w h l (p.drop i) out) := by
  intro d
  induction d with
  | zero =>
    intro i k out hi hk ho
    obtain ⟨k, rfl⟩ : ∃ m, k = m + 1 := ⟨k - 1, by omega⟩
    simp only [impl_RouteNodes.l0]
    rw [if_neg (by omega), List.drop_eq_nil_of_le (by omega)]
    rfl
  | succ d ih =>
    intro i k out hi hk ho
    obtain ⟨k, rfl⟩ : ∃ m, k = m + 1 + 1 := ⟨k - 2, by omega⟩
    simp only [impl_RouteNodes.l0]
    rw [if_pos (by omega), if_pos (by omega), if_pos (by omega), drop_rd p i (by omega), impl_HasChannel_eq w h l _ (k + 1) hl (by omega)]
    generalize hc : rd p (i : Int) = c
    simp only [Option.bind_some, rts]
    by_cases q : hasC w h l c = true
    · obtain ⟨q1, q2, q3, q4⟩ := hasC_bd q
      rw [if_pos q]
      by_cases z : i = 0
      · subst z
        rw [if_pos rfl] at ho
        have : out = [] := List.eq_nil_of_length_eq_zero ho
        subst this
        rw [if_neg (by simp)]
        simp only [impl_RouteNodes.j1]
        rw [if_neg (by simp), if_pos (by simp), if_pos (by simp), impl_endOf_eq w h l c q3 (by omega), tdiv_of q3, wrap64_id (x := c / 4) (by omega) (by omega)]
        simp only [Option.bind_some]
        rw [if_pos (by simp), w64s (by omega), ih 1 k _ (by omega) (by omega) (by simp)]
        simp [q]
      · rw [if_neg z] at ho
        rw [if_pos (by omega), if_pos (by omega), tdiv_of q3, wrap64_id (x := c / 4) (by omega) (by omega)]
        have hx : (out.length : Int) - 1 = (i : Int) := by omega
        simp only [impl_RouteNodes.j1]
        by_cases e : c / 4 = rd out (i : Int)
        · rw [if_neg (by simp [e]), if_neg (by omega), impl_endOf_eq w h l c q3 (by omega)]
          simp only [Option.bind_some]
          rw [if_pos (by omega), w64s (by omega), ih (i + 1) k _ (by omega) (by omega) (by simp; omega), hx]
          simp [q, e, show out.length ≠ 0 by omega]
        · rw [if_pos (by simpa using e), hx]
          simp [q, e, show out.length ≠ 0 by omega]
    · rw [if_neg q]
      simp only [impl_RouteNodes.j1]
      simp [q]
theorem impl_RouteNodes_eq (w h : Int) (l p : List Int) (k : Nat) (hl : l.length ≤ 1048576) (hp : p.length ≤ 2097152) (hk : 1048600 + 2 * p.length < k) : impl_RouteNodes.f k w h l p = some (rts w h l p []) := by
  unfold impl_RouteNodes.f
  have e := impl_RouteNodes_loop w h l p hl hp p.length 0 k [] (by omega) (by omega) (by simp)
  simpa using e
theorem rts_len (w h : Int) (l : List Int) : ∀ (p out : List Int), (rts w h l p out).length ≤ out.length + p.length + (if out.length = 0 then 1 else 0)
  | [], out => by simp only [rts]; omega
  | c :: r, out => by
    simp only [rts]
    split
    · have e := rts_len w h l r ((if out.length = 0 then [c / 4] else out) ++ [nxt w h (c / 4) (c % 4)])
      refine Nat.le_trans e ?_
      by_cases z : out.length = 0
      · simp [z]; omega
      · simp [z]; omega
    · simp

theorem impl_IsRoute_eq (w h : Int) (l p : List Int) (k : Nat) (hl : l.length ≤ 1048576) (hp : p.length ≤ 2097152) (hk : 1048600 + 2 * p.length < k) : impl_IsRoute.f k w h l p = some (decide (((rts w h l p []).length : Int) > 0)) := by
  unfold impl_IsRoute.f
  rw [impl_RouteNodes_eq w h l p k hl (by omega) (by omega)]
  rfl

def bck (w h c : Int) : Int := 4 * nxt w h (c / 4) (c % 4) + opp (c % 4)
theorem opp_bd (p : Int) : -1 ≤ opp p ∧ opp p ≤ 4 := by
  unfold opp
  split
  · omega
  · split
    · omega
    · omega
theorem impl_back_eq (w h : Int) (l : List Int) (c : Int) (h0 : 0 ≤ c) (h1 : c ≤ 1000) : impl_back.f w h l c = some (bck w h c) := by
  unfold impl_back.f bck
  rw [impl_endOf_eq w h l c h0 h1, tmod_of h0, impl_Opposite_eq]
  have b := nxt_bd w h (c / 4) (c % 4)
  have b2 := opp_bd (c % 4)
  simp only [Option.bind_some]
  rw [wrap64_id (x := 4 * nxt w h (c / 4) (c % 4)) (by omega) (by omega), wrap64_id (by omega) (by omega)]

def joinR (w h : Int) (l a b : List Int) : List Int × Bool := if decide (((rts w h l (a ++ b) []).length : Int) > 0) = true then (a ++ b, true) else ([], false)
theorem joinR_len (w h : Int) (l a b : List Int) : (joinR w h l a b).1.length ≤ a.length + b.length := by
  unfold joinR
  split
  · simp
  · simp
theorem impl_JoinRoutes_eq (w h : Int) (l a b : List Int) (k : Nat) (hl : l.length ≤ 1048576) (ha : a.length ≤ 1048576) (hb : b.length ≤ 1048576) (hk : 1048600 + 2 * (a.length + b.length) < k) : impl_JoinRoutes.f k w h l a b = some (joinR w h l a b) := by
  unfold impl_JoinRoutes.f joinR
  rw [if_pos (by omega), impl_IsRoute_eq w h l (a ++ b) k hl (by simp; omega) (by simp; omega)]
  simp only [Option.bind_some]
  split <;> rfl

/-- the reversed route: the channels back, from the last entry down -/
def revs (w h : Int) (l p : List Int) : Nat → List Int → List Int × Bool
  | 0, out => (out, true)
  | d + 1, out => if hasC w h l (bck w h (rd p (d : Int))) = true then revs w h l p d (out ++ [bck w h (rd p (d : Int))]) else ([], false)
/-- a route's channels are channels -/
theorem rts_mem (w h : Int) (l : List Int) : ∀ (p out : List Int), 0 < (rts w h l p out).length → ∀ c ∈ p, hasC w h l c = true
  | [], _, _ => by simp
  | c :: r, out, hr => by
    simp only [rts] at hr
    by_cases q : (hasC w h l c && (decide (out.length = 0) || decide (c / 4 = rd out ((out.length : Int) - 1)))) = true
    · rw [if_pos q] at hr
      intro x hx
      rcases List.mem_cons.1 hx with rfl | hx
      · simp only [Bool.and_eq_true] at q; exact q.1
      · exact rts_mem w h l r _ hr x hx
    · rw [if_neg q] at hr; simp at hr
theorem impl_ReverseRoute_loop (w h : Int) (l p : List Int) (hl : l.length ≤ 1048576) (hp : p.length ≤ 1048576) (hc : ∀ c ∈ p, hasC w h l c = true) : ∀ (d k : Nat) (out : List Int), d ≤ p.length → out.length + d ≤ 1048576 → 1048600 + d < k → impl_ReverseRoute.l0 k p out ((d : Int) - 1) w h l = some (revs w h l p d out) := by
  intro d
  induction d with
  | zero =>
    intro k out hd ho hk
    obtain ⟨k, rfl⟩ : ∃ m, k = m + 1 := ⟨k - 1, by omega⟩
    simp only [impl_ReverseRoute.l0]
    rw [if_neg (by omega)]
    rfl
  | succ d ih =>
    intro k out hd ho hk
    obtain ⟨k, rfl⟩ : ∃ m, k = m + 1 := ⟨k - 1, by omega⟩
    have hm : hasC w h l (rd p (d : Int)) = true := hc _ (by rw [rd_nat p d (by omega)]; exact List.getElem_mem _)
    obtain ⟨_, _, q3, q4⟩ := hasC_bd hm
    simp only [impl_ReverseRoute.l0]
    rw [show ((d + 1 : Nat) : Int) - 1 = (d : Int) by omega]
    rw [if_pos (by omega), if_pos (by omega), if_pos (by omega), impl_back_eq w h l _ q3 (by omega)]
    simp only [Option.bind_some, revs]
    rw [impl_HasChannel_eq w h l _ k hl (by omega)]
    simp only [Option.bind_some]
    by_cases q : hasC w h l (bck w h (rd p (d : Int))) = true
    · rw [if_pos q, if_pos q, if_pos (by omega), wrap64_id (x := (d : Int) - 1) (by omega) (by omega), ih k _ (by omega) (by simp; omega) (by omega)]
    · rw [if_neg q, if_neg q]
def revR (w h : Int) (l p : List Int) : List Int × Bool := if 0 < (rts w h l p []).length then revs w h l p p.length [] else ([], false)
theorem impl_ReverseRoute_eq (w h : Int) (l p : List Int) (k : Nat) (hl : l.length ≤ 1048576) (hp : p.length ≤ 1048576) (hk : 3300000 < k) : impl_ReverseRoute.f k w h l p = some (revR w h l p) := by
  unfold impl_ReverseRoute.f revR
  rw [impl_IsRoute_eq w h l p k hl (by omega) (by omega)]
  simp only [Option.bind_some]
  by_cases q : 0 < (rts w h l p []).length
  · rw [if_pos (decide_eq_true (by omega)), if_pos q, wrap64_id (x := (p.length : Int) - 1) (by omega) (by omega), impl_ReverseRoute_loop w h l p hl hp (rts_mem w h l p [] q) p.length k [] (by omega) (by simp; omega) (by omega)]
  · rw [if_neg (by rw [decide_eq_true_eq]; omega), if_neg q]
theorem revs_len (w h : Int) (l p : List Int) : ∀ (d : Nat) (out : List Int), (revs w h l p d out).1.length ≤ out.length + d
  | 0, out => by simp [revs]
  | d + 1, out => by
    simp only [revs]
    split
    · have := revs_len w h l p d (out ++ [bck w h (rd p (d : Int))])
      simp at this; omega
    · simp
theorem revR_len (w h : Int) (l p : List Int) : (revR w h l p).1.length ≤ p.length := by
  unfold revR
  split
  · have := revs_len w h l p p.length []; simpa using this
  · simp

def chn (w h : Int) (l : List Int) : Int → List Int → Prop
  | _, [] => True
  | a, c :: r => hasC w h l c = true ∧ c / 4 = a ∧ chn w h l (nxt w h (c / 4) (c % 4)) r
def nds (w h : Int) : Int → List Int → List Int
  | a, [] => [a]
  | a, c :: r => a :: nds w h (nxt w h (c / 4) (c % 4)) r
def lst (w h : Int) : Int → List Int → Int
  | a, [] => a
  | _, c :: r => lst w h (nxt w h (c / 4) (c % 4)) r
theorem nds_len (w h : Int) : ∀ (p : List Int) (a : Int), (nds w h a p).length = p.length + 1
  | [], _ => rfl
  | c :: r, a => by simp only [nds, List.length_cons, nds_len w h r]
theorem chn_app (w h : Int) (l : List Int) : ∀ (p q : List Int) (a : Int), chn w h l a p → chn w h l (lst w h a p) q → chn w h l a (p ++ q)
  | [], _, _, _, hq => hq
  | c :: r, q, a, hp, hq => by
    simp only [chn, List.cons_append] at hp ⊢
    exact ⟨hp.1, hp.2.1, chn_app w h l r q _ hp.2.2 hq⟩
theorem lst_app (w h : Int) : ∀ (p q : List Int) (a : Int), lst w h a (p ++ q) = lst w h (lst w h a p) q
  | [], _, _ => rfl
  | c :: r, q, a => by simp only [lst, List.cons_append]; exact lst_app w h r q _
theorem nds_app1 (w h : Int) : ∀ (p : List Int) (c a : Int), nds w h a (p ++ [c]) = nds w h a p ++ [nxt w h (c / 4) (c % 4)]
  | [], _, _ => rfl
  | d :: r, c, a => by simp only [nds, List.cons_append, nds_app1 w h r]
theorem rts_more (w h : Int) (l : List Int) : ∀ (p pre : List Int) (a : Int), chn w h l a p → rts w h l p (pre ++ [a]) = pre ++ nds w h a p
  | [], _, _, _ => rfl
  | c :: r, pre, a, hp => by
    simp only [chn] at hp
    have e : rd (pre ++ [a]) (((pre ++ [a]).length : Int) - 1) = a := by
      have h1 := rd_nat (pre ++ [a]) pre.length (by simp)
      rw [show ((pre ++ [a]).length : Int) - 1 = (pre.length : Int) by simp, h1]
      simp
    simp only [rts, nds]
    rw [if_pos (by rw [e, hp.1, hp.2.1]; simp), if_neg (by simp), rts_more w h l r (pre ++ [a]) _ hp.2.2]
    simp
theorem rts_nds (w h : Int) (l p : List Int) (a : Int) (hp : chn w h l a p) (h0 : p ≠ []) : rts w h l p [] = nds w h a p := by
  cases p with
  | nil => exact absurd rfl h0
  | cons c r =>
    have hp' := hp
    simp only [chn] at hp
    simp only [rts, nds]
    rw [if_pos (by rw [hp.1]; simp), if_pos (by simp), rts_more w h l r [c / 4] _ hp.2.2, hp.2.1]
    rfl
def bkOk (w h c : Int) : Bool := !leads w h c || (leads w h (bck w h c) && decide (bck w h (bck w h c) = c) && decide (bck w h c / 4 = nxt w h (c / 4) (c % 4)) && decide (nxt w h (bck w h c / 4) (bck w h c % 4) = c / 4))
set_option maxRecDepth 100000 in
theorem bk_all : ([1, 2, 3, 4] : List Int).all (fun w => ([1, 2, 3, 4] : List Int).all fun h => ((List.range 64).map fun (j : Nat) => (j : Int)).all fun c => bkOk w h c) = true := by decide +kernel
theorem bk_of {w h c : Int} (mw : w ∈ [(1 : Int), 2, 3, 4]) (mh : h ∈ [(1 : Int), 2, 3, 4]) (hc : leads w h c = true) : leads w h (bck w h c) = true ∧ bck w h (bck w h c) = c ∧ bck w h c / 4 = nxt w h (c / 4) (c % 4) ∧ nxt w h (bck w h c / 4) (bck w h c % 4) = c / 4 := by
  have b := leads_iff.1 hc
  have bd := cnt_bd w h
  have hm : c ∈ (List.range 64).map fun (j : Nat) => (j : Int) := List.mem_map.2 ⟨c.toNat, List.mem_range.2 (by omega), by omega⟩
  have t := List.all_eq_true.1 (List.all_eq_true.1 (List.all_eq_true.1 bk_all w mw) h mh) c hm
  unfold bkOk at t
  rw [hc] at t
  simp only [Bool.not_true, Bool.false_or, Bool.and_eq_true, decide_eq_true_eq] at t
  exact ⟨t.1.1.1, t.1.1.2, t.1.2, t.2⟩
theorem hasC_leads {w h : Int} {l : List Int} {c : Int} (q : hasC w h l c = true) : leads w h c = true := by
  have := (hasC_bd q).2.1
  simp only [Bool.and_eq_true] at this
  exact this.1
/-- the way back -/
def bkR (w h : Int) (p : List Int) : List Int := (p.map (bck w h)).reverse
theorem bkR_cons (w h c : Int) (r : List Int) : bkR w h (c :: r) = bkR w h r ++ [bck w h c] := by simp [bkR]
theorem bkR_ok {w h : Int} {l : List Int} (mw : w ∈ [(1 : Int), 2, 3, 4]) (mh : h ∈ [(1 : Int), 2, 3, 4]) : ∀ (p : List Int) (a : Int), chn w h l a p → (∀ c ∈ p, hasC w h l (bck w h c) = true) → chn w h l (lst w h a p) (bkR w h p) ∧ lst w h (lst w h a p) (bkR w h p) = a ∧ nds w h (lst w h a p) (bkR w h p) = (nds w h a p).reverse
  | [], a, _, _ => ⟨trivial, rfl, rfl⟩
  | c :: r, a, hp, hb => by
    simp only [chn] at hp
    obtain ⟨i1, i2, i3⟩ := bkR_ok mw mh r _ hp.2.2 (fun x hx => hb x (List.mem_cons_of_mem _ hx))
    obtain ⟨_, _, k3, k4⟩ := bk_of mw mh (hasC_leads hp.1)
    have hc := hb c (List.mem_cons_self ..)
    rw [bkR_cons]
    simp only [lst, nds]
    refine ⟨chn_app w h l _ _ _ i1 ?_, ?_, ?_⟩
    · rw [i2]
      exact ⟨hc, k3, trivial⟩
    · rw [lst_app, i2]
      simp only [lst]
      rw [k4, hp.2.1]
    · rw [nds_app1, i3, k4, hp.2.1]
      simp
theorem revs_eq (w h : Int) (l p : List Int) : ∀ (d : Nat) (out : List Int), d ≤ p.length → revs w h l p d out = if (p.take d).all (fun c => hasC w h l (bck w h c)) = true then (out ++ bkR w h (p.take d), true) else ([], false)
  | 0, out, _ => by simp [revs, bkR]
  | d + 1, out, hd => by
    have e : p.take (d + 1) = p.take d ++ [rd p (d : Int)] := by rw [rd_nat p d (by omega), List.take_succ_eq_append_getElem]
    simp only [revs]
    rw [e, List.all_append]
    by_cases q : hasC w h l (bck w h (rd p (d : Int))) = true
    · rw [if_pos q, revs_eq w h l p d _ (by omega)]
      simp only [List.all_cons, q, List.all_nil, Bool.and_true, Bool.true_and]
      split
      · simp [bkR]
      · rfl
    · rw [if_neg q, if_neg (by simp [q])]
theorem revR_ok {w h : Int} {l p : List Int} {a : Int} (hp : chn w h l a p) (h0 : p ≠ []) : revR w h l p = if p.all (fun c => hasC w h l (bck w h c)) = true then (bkR w h p, true) else ([], false) := by
  unfold revR
  rw [rts_nds w h l p a hp h0, nds_len, if_pos (by omega), revs_eq w h l p p.length [] (by omega), List.take_length]
  rfl
theorem chn_mem {w h : Int} {l : List Int} : ∀ (p : List Int) (a : Int), chn w h l a p → ∀ c ∈ p, hasC w h l c = true
  | [], _, _ => by simp
  | c :: r, a, hp => by
    simp only [chn] at hp
    intro x hx
    rcases List.mem_cons.1 hx with rfl | hx
    · exact hp.1
    · exact chn_mem r _ hp.2.2 x hx
theorem l06_loop (w h : Int) (l : List Int) (m : meshOk w h l = true) (hl : l.length ≤ 1048576) (b : List Int) : ∀ (d i k : Nat) (x : List Int) (cur ci ch : Int), i + d = 7 → 1048600 + d < k → x.length ≤ i → nd w h cur = true → Cur b ci → ∃ s ci' ch', spec_l06Route.l0 k x cur (i : Int) b ci ch w h l = some (x ++ s, ci', ch') ∧ chn w h l cur s ∧ s.length ≤ d := by
  intro d
  induction d with
  | zero =>
    intro i k x cur ci ch hi hk hx hn c
    obtain ⟨k, rfl⟩ : ∃ m, k = m + 1 := ⟨k - 1, by omega⟩
    obtain ⟨r, i1, h1, e1, c1, b1⟩ := below_ok (h := ch) c (show (0 : Int) < 7 by omega)
    simp only [spec_l06Route.l0]
    rw [e1]
    simp only [Option.bind_some]
    rw [if_neg (by omega)]
    exact ⟨[], i1, h1, by simp, trivial, by simp⟩
  | succ d ih =>
    intro i k x cur ci ch hi hk hx hn c
    obtain ⟨k, rfl⟩ : ∃ m, k = m + 1 := ⟨k - 1, by omega⟩
    obtain ⟨r, i1, h1, e1, c1, b1⟩ := below_ok (h := ch) c (show (0 : Int) < 7 by omega)
    simp only [spec_l06Route.l0]
    rw [e1]
    simp only [Option.bind_some]
    by_cases q : (i : Int) < r
    · rw [if_pos q]
      obtain ⟨t, i2, h2, e2, c2, b2⟩ := below_ok (h := h1) c1 (show (0 : Int) < 4 by omega)
      rw [e2]
      have bn := nd_bd hn
      simp only [Option.bind_some]
      rw [wrap64_id (x := 4 * cur) (by omega) (by omega), wrap64_id (x := 4 * cur + t) (by omega) (by omega), l03Has_eq w h l _ k hl (by omega)]
      simp only [Option.bind_some]
      by_cases z : (leads w h (4 * cur + t) && !decide (4 * cur + t ∈ l)) = true
      · have hc : hasC w h l (4 * cur + t) = true := by unfold hasC; rw [m, z]; rfl
        have lb := (leads_iff.1 (hasC_leads hc)).2
        have hn' := (nxt_nd lb).2
        rw [if_pos z, if_pos (by omega), spec_NextNode_eq, tmod_of (show 0 ≤ 4 * cur + t by omega)]
        simp only [Option.bind_some]
        rw [w64s (by omega)]
        have e4 : (4 * cur + t) / 4 = cur := by omega
        rw [e4] at hn'
        obtain ⟨s, ci', ch', e5, c5, s5⟩ := ih (i + 1) k (x ++ [4 * cur + t]) (nxt w h cur ((4 * cur + t) % 4)) i2 h2 (by omega) (by omega) (by simp; omega) hn' c2
        refine ⟨(4 * cur + t) :: s, ci', ch', by rw [e5]; simp, ?_, by simp; omega⟩
        simp only [chn]
        exact ⟨hc, e4, by rw [e4]; exact c5⟩
      · rw [if_neg z, w64s (by omega)]
        obtain ⟨s, ci', ch', e5, c5, s5⟩ := ih (i + 1) k x cur i2 h2 (by omega) (by omega) (by omega) hn c2
        exact ⟨s, ci', ch', e5, c5, by omega⟩
    · rw [if_neg q]
      exact ⟨[], i1, h1, by simp, trivial, by simp⟩
theorem drawRoute_ok (b : List Int) (k : Nat) (hb : b.length ≤ 1048576) (hk : 1048700 < k) : ∃ w h l p a, spec_DrawRoute.f k b = some (w, h, l, p) ∧ w ∈ [(1 : Int), 2, 3, 4] ∧ h ∈ [(1 : Int), 2, 3, 4] ∧ meshOk w h l = true ∧ l.length ≤ 64 ∧ chn w h l a p ∧ p.length ≤ 7 := by
  unfold spec_DrawRoute.f
  obtain ⟨h0, e0, c0⟩ := new_ok b k hb (by omega)
  rw [e0]
  simp only [Option.bind_some]
  obtain ⟨w, h, l, i, g, e1, c1, m1, m2, sub⟩ := mesh_ok (h := h0) k (by omega) c0
  rw [e1]
  simp only [Option.bind_some]
  have gk : gok w h = true := gok_iff.2 (by simp at m1 m2; omega)
  have m := meshOk_of gk sub
  have ll := sub_len_le sub
  have cp := cnt_pos gk
  unfold spec_l06Route.f
  rw [spec_NodeCount_eq]
  simp only [Option.bind_some]
  obtain ⟨r, i2, g2, e2, c2, b2⟩ := below_ok (h := g) c1 (show (0 : Int) < cnt w h by omega)
  rw [e2]
  simp only [Option.bind_some]
  obtain ⟨s, ci', ch', e3, c3, s3⟩ := l06_loop w h l m (by omega) b 7 0 k [] r i2 g2 (by omega) (by omega) (by simp) (nd_iff.2 (by omega)) c2
  rw [show ((0 : Nat) : Int) = 0 from rfl] at e3
  rw [e3]
  exact ⟨w, h, l, s, r, by simp, m1, m2, m, ll, c3, s3⟩
theorem same_loop (a : List Int) (ha : a.length ≤ 1048576) : ∀ (d i k : Nat), i + d = a.length → d < k → laws_sameInts.l0 k a a (i : Int) = some true := by
  intro d
  induction d with
  | zero =>
    intro i k hi hk
    obtain ⟨k, rfl⟩ : ∃ m, k = m + 1 := ⟨k - 1, by omega⟩
    simp only [laws_sameInts.l0]
    rw [if_neg (by omega)]
  | succ d ih =>
    intro i k hi hk
    obtain ⟨k, rfl⟩ : ∃ m, k = m + 1 := ⟨k - 1, by omega⟩
    simp only [laws_sameInts.l0]
    rw [if_pos (by omega), if_pos (by omega), if_pos (by omega), if_pos trivial, w64s (by omega), ih (i + 1) k (by omega) (by omega)]
theorem same_self (a : List Int) (k : Nat) (ha : a.length ≤ 1048576) (hk : 1048577 < k) : laws_sameInts.f k a a = some true := by
  unfold laws_sameInts.f
  rw [if_pos rfl]
  exact same_loop a ha a.length 0 k (by omega) (by omega)
theorem routes_loop (w h : Int) (l p N B : List Int) (hl : l.length ≤ 1048576) (hN : N.length ≤ 100) (hp : p.length ≤ 100) (hB : B.length ≤ 100) (hj : joinR w h l p B = (p ++ B, true)) (hlen : B.length = p.length) : ∀ (d i k : Nat), i + d = N.length → 1050000 + d < k → laws_FnRoutes.l0 k p N B p true N.reverse (i : Int) w h l = some true := by
  intro d
  induction d with
  | zero =>
    intro i k hi hk
    obtain ⟨k, rfl⟩ : ∃ m, k = m + 1 := ⟨k - 1, by omega⟩
    simp only [laws_FnRoutes.l0]
    rw [if_neg (by omega), impl_JoinRoutes_eq w h l p B k hl (by omega) (by omega) (by omega), hj]
    simp only [Option.bind_some]
    rw [if_pos trivial, same_self p k (by omega) (by omega)]
    simp only [Option.bind_some]
    rw [if_pos trivial, if_pos trivial, wrap64_id (by omega) (by omega)]
    simp
    omega
  | succ d ih =>
    intro i k hi hk
    obtain ⟨k, rfl⟩ : ∃ m, k = m + 1 := ⟨k - 1, by omega⟩
    have e : rd N.reverse (i : Int) = rd N ((N.length : Int) - 1 - (i : Int)) := by
      rw [rd_nat N.reverse i (by simp; omega), show (N.length : Int) - 1 - (i : Int) = ((N.length - 1 - i : Nat) : Int) by omega, rd_nat N (N.length - 1 - i) (by omega), List.getElem_reverse]
    simp only [laws_FnRoutes.l0]
    rw [wrap64_id (x := (N.length : Int) - 1) (by omega) (by omega), wrap64_id (x := (N.length : Int) - 1 - (i : Int)) (by omega) (by omega)]
    rw [if_pos (by omega), if_pos (by omega), if_pos (by simp; omega), if_pos (by omega), if_pos (by omega), if_pos e, w64s (by omega), ih (i + 1) k (by omega) (by omega)]
theorem FnRoutes : laws_FnRoutes.Pure := by
  intro b hm _ _
  obtain ⟨k, hk⟩ : ∃ k : Nat, 4000000 ≤ k := ⟨_, Nat.le_refl _⟩
  refine ⟨k, ?_⟩
  unfold laws_FnRoutes.f
  rw [big_eq]
  simp only [Option.bind_some]
  by_cases hb : 1048576 < b.length
  · rw [if_pos (by simpa using hb)]
  rw [if_neg (by simpa using hb)]
  obtain ⟨w, h, l, p, a, e1, mw, mh, m, ll, cp, lp⟩ := drawRoute_ok b k (by omega) (by omega)
  rw [e1]
  simp only [Option.bind_some]
  rw [impl_RouteNodes_eq w h l p k (by omega) (by omega) (by omega)]
  simp only [Option.bind_some]
  by_cases z : p = []
  · subst z
    rw [if_pos (by simp), if_pos (by simp [rts]), impl_IsRoute_eq w h l [] k (by omega) (by simp) (by simp; omega)]
    simp [rts]
  have z1 : p.length ≠ 0 := fun x => z (List.eq_nil_of_length_eq_zero x)
  have nl := nds_len w h p a
  rw [if_neg (by omega), rts_nds w h l p a cp z, nl, wrap64_id (by omega) (by omega), if_pos (by omega), impl_ReverseRoute_eq w h l p k (by omega) (by omega) (by omega), revR_ok cp z]
  simp only [Option.bind_some]
  by_cases o : p.all (fun c => hasC w h l (bck w h c)) = true
  · have ob := List.all_eq_true.1 o
    obtain ⟨k1, k2, k3⟩ := bkR_ok mw mh p a cp ob
    have bl : (bkR w h p).length = p.length := by simp [bkR]
    have bz : bkR w h p ≠ [] := fun x => by rw [x] at bl; simp at bl; omega
    have bb : bkR w h (bkR w h p) = p := by
      unfold bkR
      rw [List.map_reverse, List.reverse_reverse, List.map_map]
      conv => rhs; rw [← List.map_id p]
      refine List.map_congr_left fun c hc => ?_
      exact (bk_of mw mh (hasC_leads (chn_mem p a cp c hc))).2.1
    have o2 : (bkR w h p).all (fun c => hasC w h l (bck w h c)) = true := by
      refine List.all_eq_true.2 fun c hc => ?_
      unfold bkR at hc
      obtain ⟨x, hx, rfl⟩ := List.mem_map.1 (List.mem_reverse.1 hc)
      have hx' := chn_mem p a cp x hx
      rw [(bk_of mw mh (hasC_leads hx')).2.1]
      exact hx'
    rw [if_pos o]
    simp only [if_true]
    rw [impl_ReverseRoute_eq w h l (bkR w h p) k (by omega) (by omega) (by omega), revR_ok k1 bz, if_pos o2, bb]
    simp only [Option.bind_some]
    rw [impl_RouteNodes_eq w h l (bkR w h p) k (by omega) (by omega) (by omega), rts_nds w h l _ _ k1 bz, k3]
    simp only [Option.bind_some]
    rw [if_pos (by simp; omega)]
    have hj : joinR w h l p (bkR w h p) = (p ++ bkR w h p, true) := by
      unfold joinR
      rw [rts_nds w h l _ a (chn_app w h l p _ a cp k1) (by simp [z]), nds_len, if_pos (by simp; omega)]
    have e := routes_loop w h l p (nds w h a p) (bkR w h p) (by omega) (by omega) (by omega) (by omega) hj bl (nds w h a p).length 0 k (by omega) (by omega)
    rw [show ((0 : Nat) : Int) = 0 from rfl] at e
    exact e
  · rw [if_neg o]
    simp only [Bool.false_eq_true, if_false]
    have : l ≠ [] := by
      intro e
      apply o
      refine List.all_eq_true.2 fun c hc => ?_
      have hx := hasC_leads (chn_mem p a cp c hc)
      unfold hasC
      rw [m, (bk_of mw mh hx).1, e]
      simp
    have : l.length ≠ 0 := fun x => this (List.eq_nil_of_length_eq_zero x)
    simp only [Option.some.injEq, decide_eq_true_eq]
    omega

end Go.Proofs.Ytmfkgnfjjfnfmaa.Pure
