/- What is proved: the statement FnMerged, in its pure form, over numbers and lists: merging does not hang on the order, and shifting back restores a list, for every draw (no conditions). -/
import Derived.Test.YtmfkgnfjjfnfmaaXV8
import Derived.Test.YtmfkgnfjjfnfmaaModel
set_option linter.unusedVariables false
set_option linter.unusedSimpArgs false
namespace Go.Proofs.Ytmfkgnfjjfnfmaa.Pure
open Go.RowKit Go.Proofs.Ytmfkgnfjjfnfmaa.XV Go.Proofs.Ytmfkgnfjjfnfmaa.M Go.Proofs.YtmfkgnfjjfnfmaaW.PrintWords Go.Proofs.YtmfkgnfjjfnfmaaW.PrintLast
theorem rd_nat (l : List Int) (i : Nat) (h : i < l.length) : rd l (i : Int) = l[i] := by unfold rd; simp [h]
theorem drop_rd (l : List Int) (i : Nat) (h : i < l.length) : l.drop i = rd l (i : Int) :: l.drop (i + 1) := by
  rw [rd_nat l i h]; exact List.drop_eq_getElem_cons h
theorem w64s {i : Nat} (h : i ≤ 9223372036854775806) : wrap64 ((i : Int) + 1) = ((i + 1 : Nat) : Int) := by rw [wrap64_id (by omega) (by omega)]; omega
theorem w64p {i : Nat} (h : i ≤ 9223372036854775806) (h0 : 0 < i) : wrap64 ((i : Int) - 1) = ((i - 1 : Nat) : Int) := by rw [wrap64_id (by omega) (by omega)]; omega

theorem impl_inside_eq (a b c : Int) : impl_inside.f a b c = some (inR a b c) := by
  unfold impl_inside.f inR
  by_cases h : b ≤ a <;> simp [h]

theorem impl_GridOk_eq (w h : Int) : impl_GridOk.f w h = some (gok w h) := by
  unfold impl_GridOk.f gok
  simp only [impl_inside_eq, Option.bind_some]
  cases inR w 1 4 <;> rfl

theorem impl_NodeCount_eq (w h : Int) : impl_NodeCount.f w h = some (cnt w h) := by
  unfold impl_NodeCount.f
  simp only [impl_GridOk_eq, Option.bind_some]
  by_cases g : gok w h = true
  · have b := cnt_bd w h
    rw [if_pos g, cnt_ok g]
    rw [cnt_ok g] at b
    rw [wrap64_id (by omega) (by omega)]
  · rw [if_neg g, cnt_no (by simpa using g)]

theorem impl_isNode_eq (w h n : Int) : impl_isNode.f w h n = some (nd w h n) := by
  have b := cnt_bd w h
  unfold impl_isNode.f nd
  simp only [impl_NodeCount_eq, impl_inside_eq, Option.bind_some]
  rw [wrap64_id (by omega) (by omega)]

theorem impl_NodeAt_eq (w h x y : Int) : impl_NodeAt.f w h x y = some (natx w h x y) := by
  unfold impl_NodeAt.f natx
  simp only [impl_GridOk_eq, impl_inside_eq, Option.bind_some]
  by_cases g : gok w h = true
  · have b := gok_iff.1 g
    rw [if_pos g, wrap64_id (x := w - 1) (by omega) (by omega), wrap64_id (x := h - 1) (by omega) (by omega)]
    by_cases hx : inR x 0 (w - 1) = true
    · rw [if_pos hx]
      by_cases hy : inR y 0 (h - 1) = true
      · rw [if_pos hy, if_pos (by simp [g, hx, hy])]
        rw [inR_iff] at hx hy
        have e : wrap64 (y * w) = y * w := by rcases w4 g with rfl | rfl | rfl | rfl <;> exact wrap64_id (by omega) (by omega)
        have e2 : wrap64 (y * w + x) = y * w + x := by rcases w4 g with rfl | rfl | rfl | rfl <;> exact wrap64_id (by omega) (by omega)
        rw [e, e2]
      · rw [if_neg hy, if_neg (by simp [hy])]
    · rw [if_neg hx, if_neg (by simp [hx])]
  · rw [if_neg g, if_neg (by simp [g])]

theorem impl_NextNode_eq (w h n p : Int) : impl_NextNode.f w h n p = some (nxt w h n p) := by
  unfold impl_NextNode.f nxt
  simp only [impl_isNode_eq, Option.bind_some]
  by_cases d : nd w h n = true
  · have b := nd_bd d
    rw [if_pos d, if_pos d, if_neg (by omega)]
    simp only [impl_NodeAt_eq, Option.bind_some, tmod_of (show 0 ≤ n by omega), tdiv_of (show 0 ≤ n by omega)]
    rw [wrap64_id (x := n / w) (by omega) (by omega), wrap64_id (x := n / w - 1) (by omega) (by omega), wrap64_id (x := n / w + 1) (by omega) (by omega), wrap64_id (x := n % w + 1) (by omega) (by omega), wrap64_id (x := n % w - 1) (by omega) (by omega)]
    repeat' split
    all_goals rfl
  · rw [if_neg d, if_neg d]

theorem impl_leads_eq (w h c : Int) : impl_leads.f w h c = some (leads w h c) := by
  have b := cnt_bd w h
  unfold impl_leads.f leads
  simp only [impl_NodeCount_eq, impl_inside_eq, Option.bind_some, impl_NextNode_eq]
  rw [wrap64_id (x := 4 * cnt w h) (by omega) (by omega), wrap64_id (by omega) (by omega)]
  by_cases r : inR c 0 (4 * cnt w h - 1) = true
  · have b := inR_iff.1 r
    rw [if_pos r, tdiv_of (by omega), wrap64_id (by omega) (by omega), tmod_of (by omega), r]
    rfl
  · rw [if_neg r]
    simp [r]

theorem spec_l01In_eq (a b c : Int) : spec_l01In.f a b c = some (inR a b c) := by
  unfold spec_l01In.f inR
  by_cases h : b ≤ a <;> simp [h]

theorem spec_GridOk_eq (w h : Int) : spec_GridOk.f w h = some (gok w h) := by
  unfold spec_GridOk.f gok
  simp only [spec_l01In_eq, Option.bind_some]
  cases inR w 1 4 <;> rfl

theorem spec_NodeCount_eq (w h : Int) : spec_NodeCount.f w h = some (cnt w h) := by
  unfold spec_NodeCount.f
  simp only [spec_GridOk_eq, Option.bind_some]
  by_cases g : gok w h = true
  · have b := cnt_bd w h
    rw [if_pos g, cnt_ok g]
    rw [cnt_ok g] at b
    rw [wrap64_id (by omega) (by omega)]
  · rw [if_neg g, cnt_no (by simpa using g)]

theorem impl_MeshOk_loop (w h : Int) (l : List Int) (hn : l.length ≤ 9223372036854775806) : ∀ (d i k : Nat), i + d = l.length → d < k → impl_MeshOk.l0 k l (l.length : Int) (i : Int) w h l = some (brOk w h (if i = 0 then none else some (rd l ((i - 1 : Nat) : Int))) (l.drop i) && gok w h) := by
  intro d
  induction d with
  | zero =>
    intro i k hi hk
    obtain ⟨k, rfl⟩ : ∃ m, k = m + 1 := ⟨k - 1, by omega⟩
    simp only [impl_MeshOk.l0]
    rw [if_neg (by omega), impl_GridOk_eq, List.drop_eq_nil_of_le (by omega)]
    simp [brOk]
  | succ d ih =>
    intro i k hi hk
    obtain ⟨k, rfl⟩ : ∃ m, k = m + 1 := ⟨k - 1, by omega⟩
    simp only [impl_MeshOk.l0]
    rw [if_pos (by omega), if_pos (by omega), if_pos (by omega), impl_leads_eq, drop_rd l i (by omega)]
    simp only [Option.bind_some]
    by_cases c : leads w h (rd l (i : Int)) = true
    · rw [if_pos c]
      have e := ih (i + 1) k (by omega) (by omega)
      rw [if_neg (by omega), show i + 1 - 1 = i from by omega] at e
      by_cases z : i = 0
      · subst z
        rw [if_neg (by simp), w64s (by omega), e, if_pos rfl]
        simp only [brOk, c, Bool.true_and]
      · rw [if_pos (by omega), w64p (by omega) (by omega), if_pos (by omega), if_pos (by omega), if_neg z]
        by_cases q : rd l ((i - 1 : Nat) : Int) ≥ rd l (i : Int)
        · rw [if_pos q]
          simp only [brOk]
          rw [show decide (rd l ((i - 1 : Nat) : Int) < rd l (i : Int)) = false from decide_eq_false (by omega)]
          simp
        · rw [if_neg q, w64s (by omega), e]
          simp only [brOk]
          rw [show decide (rd l ((i - 1 : Nat) : Int) < rd l (i : Int)) = true from decide_eq_true (by omega), c]
          simp
    · rw [if_neg c]
      have c' : leads w h (rd l (i : Int)) = false := by simpa using c
      by_cases z : i = 0
      · rw [if_pos z]; simp only [brOk, c', Bool.false_and]
      · rw [if_neg z]; simp only [brOk, c', Bool.false_and]
theorem impl_MeshOk_eq (w h : Int) (l : List Int) (k : Nat) (hl : l.length ≤ 1048576) (hk : 1048577 < k) : impl_MeshOk.f k w h l = some (meshOk w h l) := by
  unfold impl_MeshOk.f
  have e := impl_MeshOk_loop w h l (by omega) l.length 0 k (by omega) (by omega)
  rw [show ((0 : Nat) : Int) = 0 from rfl] at e
  rw [e]
  simp [meshOk, Bool.and_comm]

theorem slicesIndex_loop (l : List Int) (c : Int) (hn : l.length ≤ 9223372036854775806) : ∀ (d i k : Nat), i + d = l.length → d < k → ∃ r, slices_Index_int_int.l0 k l c (l.length : Int) (i : Int) = some r ∧ (0 ≤ r ↔ c ∈ l.drop i) := by
  intro d
  induction d with
  | zero =>
    intro i k hi hk
    obtain ⟨k, rfl⟩ : ∃ m, k = m + 1 := ⟨k - 1, by omega⟩
    simp only [slices_Index_int_int.l0]
    rw [if_neg (by omega), List.drop_eq_nil_of_le (by omega)]
    exact ⟨-1, rfl, by simp⟩
  | succ d ih =>
    intro i k hi hk
    obtain ⟨k, rfl⟩ : ∃ m, k = m + 1 := ⟨k - 1, by omega⟩
    simp only [slices_Index_int_int.l0]
    rw [if_pos (by omega), if_pos (by omega), if_pos (by omega), drop_rd l i (by omega)]
    by_cases q : c = rd l (i : Int)
    · rw [if_pos q]; exact ⟨_, rfl, by simp [q]⟩
    · rw [if_neg q, w64s (by omega)]
      obtain ⟨r, h1, h2⟩ := ih (i + 1) k (by omega) (by omega)
      exact ⟨r, h1, by simp [q, h2]⟩
theorem slicesContains_eq (l : List Int) (c : Int) (k : Nat) (hl : l.length ≤ 1048576) (hk : 1048577 < k) : slices_Contains_int_int.f k l c = some (decide (c ∈ l)) := by
  unfold slices_Contains_int_int.f slices_Index_int_int.f
  obtain ⟨r, h1, h2⟩ := slicesIndex_loop l c (by omega) l.length 0 k (by omega) (by omega)
  rw [show ((0 : Nat) : Int) = 0 from rfl] at h1
  rw [h1]
  simp only [Option.bind_some]
  congr 1
  simpa using h2

theorem impl_HasChannel_eq (w h : Int) (l : List Int) (c : Int) (k : Nat) (hl : l.length ≤ 1048576) (hk : 1048577 < k) : impl_HasChannel.f k w h l c = some (hasC w h l c) := by
  unfold impl_HasChannel.f
  rw [impl_MeshOk_eq w h l k hl hk, impl_leads_eq, slicesContains_eq l c k hl hk]
  simp only [Option.bind_some]
  by_cases q : meshOk w h l = true
  · by_cases q2 : leads w h c = true <;> simp [q, q2, hasC]
  · simp [q, hasC]

theorem spec_l05Port_eq (w h r n t : Int) (k : Nat) (hk : 3 ≤ k) (d : nd w h n = true) (e : nd w h t = true) (hr : inR r 1 4 = true) : spec_l05Port.f k w h r n t = some (stdP w r n t) := by
  obtain ⟨k, rfl⟩ : ∃ m, k = m + 1 + 1 := ⟨k - 2, by omega⟩
  have b1 := nd_bd d
  have b2 := nd_bd e
  have ap := apart d e
  rw [inR_iff] at hr
  unfold spec_l05Port.f stdP
  rw [if_neg (show ¬ w = 0 by omega), tmod_of (show 0 ≤ n by omega), tmod_of (show 0 ≤ t by omega), tmod_of (show 0 ≤ t by omega), tdiv_of (show 0 ≤ n by omega), tdiv_of (show 0 ≤ t by omega), wrap64_id (x := n / w) (by omega) (by omega), wrap64_id (x := t / w) (by omega) (by omega), wrap64_id (x := 1 + t % 2) (by omega) (by omega)]
  have key : ∀ r x y u v : Int, 1 ≤ r → r ≤ 3 → spec_l05Port.j0 (k + 1 + 1) r x y u v = some (stdQ r x y u v) := by
    intro r x y u v h1 h2
    simp only [spec_l05Port.j0, spec_l05Port.j1, spec_l05Column.f, spec_l05Row.f, stdQ]
    have c3 : r = 1 ∨ r = 2 ∨ r = 3 := by omega
    by_cases a1 : u < x <;> by_cases a2 : v < y <;> by_cases a3 : y = v <;> by_cases a4 : x = u <;> rcases c3 with rfl | rfl | rfl <;> simp [a1, a2, a3, a4]
  by_cases c : n = t
  · rw [if_pos c, if_pos c]
  · rw [if_neg c, if_neg c]
    by_cases q : r = 4
    · rw [if_pos q, if_pos q]; exact key _ _ _ _ _ (by omega) (by omega)
    · rw [if_neg q, if_neg q]; exact key _ _ _ _ _ (by omega) (by omega)

theorem i64_and255 (n : Int) : bits .and .i64 n 255 = n % 256 := by
  have h : (BitVec.ofInt 64 255).toNat = 2 ^ 8 - 1 := by decide
  have key : (BitVec.ofInt 64 n &&& BitVec.ofInt 64 255).toNat = (n % ((2 ^ 64 : Nat) : Int)).toNat % 2 ^ 8 := by
    rw [BitVec.toNat_and, BitVec.toNat_ofInt, h, Nat.and_two_pow_sub_one_eq_mod]
  show IntKind.i64.wrap ((BitVec.ofInt 64 n &&& BitVec.ofInt 64 255).toNat : Nat) = n % 256
  rw [key, IntKind.wrap_i64]
  omega
/-- the cursor: a place in the bytes -/
def Cur (b : List Int) (i : Int) : Prop := b.length ≤ 1048576 ∧ 0 ≤ i ∧ i ≤ b.length
theorem byte_ok {b : List Int} {i h : Int} (c : Cur b i) : ∃ r i' h', spec_l01Byte.f b i h = some (r, i', h') ∧ Cur b i' ∧ 0 ≤ r ∧ r ≤ 255 := by
  obtain ⟨c0, c1, c2⟩ := c
  unfold spec_l01Byte.f
  by_cases q : i < (b.length : Int)
  · rw [if_pos q, if_pos c1]
    refine ⟨_, _, _, rfl, ⟨c0, ?_, ?_⟩, ?_, ?_⟩
    · rw [wrap64_id (by omega) (by omega)]; omega
    · rw [wrap64_id (by omega) (by omega)]; omega
    · rw [i64_and255]; omega
    · rw [i64_and255]; omega
  · rw [if_neg q]
    refine ⟨_, _, _, rfl, ⟨c0, c1, c2⟩, ?_, ?_⟩
    · rw [i64_and255]; omega
    · rw [i64_and255]; omega

theorem below_ok {b : List Int} {i h n : Int} (c : Cur b i) (hn : 0 < n) : ∃ r i' h', spec_l01Below.f b i h n = some (r, i', h') ∧ Cur b i' ∧ 0 ≤ r ∧ r < n := by
  unfold spec_l01Below.f
  rw [if_neg (show ¬ n ≤ 0 by omega)]
  by_cases q : n ≤ 256
  · rw [if_pos q]
    obtain ⟨r, i', h', e, c', r0, r1⟩ := byte_ok (h := h) c
    rw [e]
    simp only [Option.bind_some]
    rw [if_neg (show ¬ n = 0 by omega), tmod_of r0]
    exact ⟨_, _, _, rfl, c', Int.emod_nonneg _ (by omega), Int.emod_lt_of_pos _ hn⟩
  · rw [if_neg q]
    obtain ⟨r1, i1, h1, e1, c1, a1, b1⟩ := byte_ok (h := h) c
    rw [e1]
    simp only [Option.bind_some]
    obtain ⟨r2, i2, h2, e2, c2, a2, b2⟩ := byte_ok (h := h1) c1
    rw [e2]
    simp only [Option.bind_some]
    obtain ⟨r3, i3, h3, e3, c3, a3, b3⟩ := byte_ok (h := h2) c2
    rw [e3]
    simp only [Option.bind_some]
    obtain ⟨r4, i4, h4, e4, c4, a4, b4⟩ := byte_ok (h := h3) c3
    rw [e4]
    simp only [Option.bind_some]
    rw [if_neg (show ¬ n = 0 by omega), wrap64_id (x := r1 * 16777216) (by omega) (by omega), wrap64_id (x := r2 * 65536) (by omega) (by omega), wrap64_id (x := r3 * 256) (by omega) (by omega), wrap64_id (x := r1 * 16777216 + r2 * 65536) (by omega) (by omega), wrap64_id (x := r1 * 16777216 + r2 * 65536 + r3 * 256) (by omega) (by omega), wrap64_id (by omega) (by omega), tmod_of (by omega)]
    exact ⟨_, _, _, rfl, c4, Int.emod_nonneg _ (by omega), Int.emod_lt_of_pos _ hn⟩
theorem below0_ok {b : List Int} {i h n : Int} (c : Cur b i) (hn : n ≤ 0) : spec_l01Below.f b i h n = some (0, i, h) := by
  unfold spec_l01Below.f
  rw [if_pos hn]

theorem pick_ok {b : List Int} {i h : Int} {l : List Int} (c : Cur b i) (hl : 0 < l.length) : ∃ r i' h', spec_l01PickInt.f b i h l = some (r, i', h') ∧ Cur b i' ∧ r ∈ l := by
  unfold spec_l01PickInt.f
  obtain ⟨r, i', h', e, c', r0, r1⟩ := below_ok (h := h) c (show 0 < (l.length : Int) by omega)
  rw [e]
  simp only [Option.bind_some]
  rw [if_pos r0, if_pos r1]
  refine ⟨_, _, _, rfl, c', ?_⟩
  obtain ⟨n, rfl⟩ := Int.eq_ofNat_of_zero_le r0
  rw [rd_nat l n (by omega)]
  exact List.getElem_mem _

theorem new_loop (b : List Int) : ∀ (d i k : Nat) (h : Int), i + d = 4000 → d < k → ∃ h', spec_l01New.l0 k b h (i : Int) = some (b, 0, h') := by
  intro d
  induction d with
  | zero =>
    intro i k h hi hk
    obtain ⟨k, rfl⟩ : ∃ m, k = m + 1 := ⟨k - 1, by omega⟩
    simp only [spec_l01New.l0]
    by_cases q : (i : Int) < (b.length : Int)
    · rw [if_pos q, if_neg (by omega)]; exact ⟨_, rfl⟩
    · rw [if_neg q]; exact ⟨_, rfl⟩
  | succ d ih =>
    intro i k h hi hk
    obtain ⟨k, rfl⟩ : ∃ m, k = m + 1 := ⟨k - 1, by omega⟩
    simp only [spec_l01New.l0]
    by_cases q : (i : Int) < (b.length : Int)
    · rw [if_pos q, if_pos (by omega), if_pos (by omega), w64s (by omega)]
      exact ih (i + 1) k _ (by omega) (by omega)
    · rw [if_neg q]; exact ⟨_, rfl⟩
theorem new_ok (b : List Int) (k : Nat) (hb : b.length ≤ 1048576) (hk : 4000 < k) : ∃ h, spec_l01New.f k b = some (b, 0, h) ∧ Cur b 0 := by
  unfold spec_l01New.f
  obtain ⟨h, e⟩ := new_loop b 4000 0 k (wrap64 (98459 + (b.length : Int))) (by omega) (by omega)
  exact ⟨h, e, hb, by omega, by omega⟩

theorem big_eq (l : List Int) : laws_big.f l = some (decide (1048576 < l.length)) := by
  unfold laws_big.f
  congr 1
  simp
  omega

def prt (w h : Int) (l p : List Int) (n t : Int) : Int := if (meshOk w h l && (nd w h n && (nd w h t && (decide ((p.length : Int) = cnt w h * cnt w h) && inR (rd p (n * cnt w h + t)) 0 4)))) = true then rd p (n * cnt w h + t) else -1
theorem prt_bd {w h n t : Int} (d : nd w h n = true) (e : nd w h t = true) : 0 ≤ n * cnt w h + t ∧ n * cnt w h + t < cnt w h * cnt w h ∧ n * cnt w h ≤ 256 := by
  have b1 := nd_iff.1 d
  have b2 := nd_iff.1 e
  have b3 := cnt_bd w h
  have h1 : 0 ≤ n * cnt w h := Int.mul_nonneg b1.1 (by omega)
  have h2 : n * cnt w h ≤ (cnt w h - 1) * cnt w h := Int.mul_le_mul_of_nonneg_right (by omega) (by omega)
  have h3 : (cnt w h - 1) * cnt w h = cnt w h * cnt w h - cnt w h := by rw [Int.sub_mul, Int.one_mul]
  have h4 : cnt w h * cnt w h ≤ 16 * cnt w h := Int.mul_le_mul_of_nonneg_right (by omega) (by omega)
  omega

theorem impl_PortAt_eq (w h : Int) (l p : List Int) (n t : Int) (k : Nat) (hl : l.length ≤ 1048576) (hk : 1048577 < k) : impl_PortAt.f k w h l p n t = some (prt w h l p n t) := by
  have b := cnt_bd w h
  unfold impl_PortAt.f prt
  have e1 : wrap64 (cnt w h - 1) = cnt w h - 1 := wrap64_id (by omega) (by omega)
  have hc : cnt w h * cnt w h ≤ 16 * cnt w h := Int.mul_le_mul_of_nonneg_right (by omega) (by omega)
  have hc0 : 0 ≤ cnt w h * cnt w h := Int.mul_nonneg (by omega) (by omega)
  have e2 : wrap64 (cnt w h * cnt w h) = cnt w h * cnt w h := wrap64_id (by omega) (by omega)
  simp only [impl_NodeCount_eq, impl_MeshOk_eq w h l k hl hk, impl_inside_eq, Option.bind_some, e1, e2]
  have f1 : ∀ x, inR x 0 (cnt w h - 1) = nd w h x := fun _ => rfl
  simp only [f1]
  by_cases m : meshOk w h l = true
  · rw [if_pos m]
    by_cases d : nd w h n = true
    · rw [if_pos d]
      by_cases e : nd w h t = true
      · rw [if_pos e]
        have q := prt_bd d e
        rw [wrap64_id (x := n * cnt w h) (by have := Int.mul_nonneg (nd_iff.1 d).1 b.1; omega) (by omega), wrap64_id (x := n * cnt w h + t) (by omega) (by omega)]
        by_cases s : (p.length : Int) = cnt w h * cnt w h
        · rw [if_pos s, if_pos q.1, if_pos (by omega)]
          by_cases r : inR (rd p (n * cnt w h + t)) 0 4 = true
          · rw [if_pos r]; simp [m, d, e, s, r]
          · rw [if_neg r]; simp [r]
        · rw [if_neg s]; simp [s]
      · rw [if_neg e]; simp [e]
    · rw [if_neg d]; simp [d]
  · rw [if_neg m]; simp [m]

theorem grid_ok {b : List Int} {i h : Int} (c : Cur b i) : ∃ w' h' i' g, spec_l02Grid.f b i h = some (w', h', i', g) ∧ Cur b i' ∧ w' ∈ [(1 : Int), 2, 3, 4] ∧ h' ∈ [(1 : Int), 2, 3, 4] := by
  unfold spec_l02Grid.f
  obtain ⟨r1, i1, h1, e1, c1, m1⟩ := pick_ok (h := h) (l := [1, 2, 2, 3, 3, 4]) c (by simp)
  rw [e1]
  simp only [Option.bind_some]
  obtain ⟨r2, i2, h2, e2, c2, m2⟩ := pick_ok (h := h1) (l := [1, 2, 2, 3, 3, 4]) c1 (by simp)
  rw [e2]
  refine ⟨_, _, _, _, rfl, c2, ?_, ?_⟩
  · simp at m1 ⊢; omega
  · simp at m2 ⊢; omega

def stdG (w h r : Int) (i : Nat) : Int := stdP w r ((i / (cnt w h).toNat : Nat) : Int) ((i % (cnt w h).toNat : Nat) : Int)
def stdT (w h r : Int) : List Int := (List.range ((cnt w h).toNat * (cnt w h).toNat)).map (stdG w h r)
theorem stdT_len (w h r : Int) : (stdT w h r).length = (cnt w h).toNat * (cnt w h).toNat := by simp [stdT]
theorem cnt_sq (w h : Int) : (cnt w h).toNat * (cnt w h).toNat ≤ 256 ∧ (((cnt w h).toNat * (cnt w h).toNat : Nat) : Int) = cnt w h * cnt w h := by
  have b := cnt_bd w h
  obtain ⟨n, hn⟩ : ∃ n : Nat, cnt w h = n := ⟨(cnt w h).toNat, by omega⟩
  rw [hn] at b ⊢
  simp only [Int.toNat_natCast]
  refine ⟨?_, by simp⟩
  have : n ≤ 16 := by omega
  exact Nat.mul_le_mul this this

theorem l05Make_loop (w h r : Int) (g : gok w h = true) (hr : inR r 1 4 = true) : ∀ (d i k : Nat) (x : List Int), i + d = (cnt w h).toNat * (cnt w h).toNat → d + 5 < k → x = (List.range i).map (stdG w h r) → spec_l05Make.l0 k r (cnt w h) (i : Int) w h x = some (stdT w h r) := by
  have b := cnt_bd w h
  have bp := cnt_pos g
  have sq := cnt_sq w h
  intro d
  induction d with
  | zero =>
    intro i k x hi hk hx
    obtain ⟨k, rfl⟩ : ∃ m, k = m + 1 := ⟨k - 1, by omega⟩
    simp only [spec_l05Make.l0]
    rw [wrap64_id (x := cnt w h * cnt w h) (by omega) (by omega), if_neg (by omega), hx]
    unfold stdT
    congr 3
  | succ d ih =>
    intro i k x hi hk hx
    obtain ⟨k, rfl⟩ : ∃ m, k = m + 1 := ⟨k - 1, by omega⟩
    simp only [spec_l05Make.l0]
    obtain ⟨n, hn⟩ : ∃ n : Nat, cnt w h = n := ⟨(cnt w h).toNat, by omega⟩
    have hlt : i < n * n := by rw [hn] at hi; simp at hi; omega
    have h1 : i / n < n := Nat.div_lt_of_lt_mul hlt
    have h2 : i % n < n := Nat.mod_lt _ (by omega)
    rw [wrap64_id (x := cnt w h * cnt w h) (by omega) (by omega), if_pos (by omega), if_neg (by omega), tdiv_of (by omega), tmod_of (by omega)]
    have e1 : (i : Int) / cnt w h = ((i / n : Nat) : Int) := by rw [hn]; simp
    have e2 : (i : Int) % cnt w h = ((i % n : Nat) : Int) := by rw [hn]; simp
    have hA : wrap64 ((i / n : Nat) : Int) = ((i / n : Nat) : Int) := by
      generalize i / n = q at h1 ⊢
      exact wrap64_id (by omega) (by omega)
    have hB : nd w h ((i / n : Nat) : Int) = true := by
      generalize i / n = q at h1 ⊢
      exact nd_iff.2 ⟨by omega, by omega⟩
    have hC : nd w h ((i % n : Nat) : Int) = true := by
      generalize i % n = q at h2 ⊢
      exact nd_iff.2 ⟨by omega, by omega⟩
    rw [e1, e2, hA, spec_l05Port_eq w h r _ _ k (by omega) hB hC hr]
    simp only [Option.bind_some]
    have hxl : x.length = i := by rw [hx]; simp
    rw [if_pos (by omega), w64s (by omega)]
    refine ih (i + 1) k _ (by omega) (by omega) ?_
    rw [hx, List.range_succ, List.map_append]
    congr 1
    simp [stdG, hn]
theorem spec_l05Make_eq (w h r : Int) (k : Nat) (g : gok w h = true) (hr : inR r 1 4 = true) (hk : 300 < k) : spec_l05Make.f k w h r = some (stdT w h r) := by
  unfold spec_l05Make.f
  have sq := cnt_sq w h
  rw [spec_NodeCount_eq]
  simp only [Option.bind_some]
  exact l05Make_loop w h r g hr ((cnt w h).toNat * (cnt w h).toNat) 0 k [] (by omega) (by omega) rfl

theorem impl_endOf_eq (w h : Int) (l : List Int) (c : Int) (h0 : 0 ≤ c) (h1 : c ≤ 1000) : impl_endOf.f w h l c = some (nxt w h (c / 4) (c % 4)) := by
  unfold impl_endOf.f
  rw [tmod_of h0, tdiv_of h0, wrap64_id (by omega) (by omega), impl_NextNode_eq]
  rfl

/-- a walk by the table, from a on, d channels at most -/
def wlk (w h : Int) (l p : List Int) (t : Int) : Nat → Int → List Int → List Int
  | 0, a, out => if rd p (a * cnt w h + t) = 4 then (if a = t then out else []) else []
  | d + 1, a, out => if rd p (a * cnt w h + t) = 4 then (if a = t then out else []) else if (inR (rd p (a * cnt w h + t)) 0 3 && hasC w h l (4 * a + rd p (a * cnt w h + t))) = true then wlk w h l p t d (nxt w h a (rd p (a * cnt w h + t))) (out ++ [4 * a + rd p (a * cnt w h + t)]) else []
theorem hasC_lead {w h : Int} {l : List Int} {a q : Int} (c : hasC w h l (4 * a + q) = true) (h0 : 0 ≤ q) (h1 : q ≤ 3) : nd w h (nxt w h a q) = true ∧ (leads w h (4 * a + q) && !decide (4 * a + q ∈ l)) = true := by
  unfold hasC at c
  have q2 : (leads w h (4 * a + q) && !decide (4 * a + q ∈ l)) = true := by simp only [Bool.and_eq_true] at c ⊢; exact c.2
  refine ⟨?_, q2⟩
  simp only [Bool.and_eq_true] at c
  have b := (leads_iff.1 c.2.1).2
  rw [show (4 * a + q) / 4 = a by omega, show (4 * a + q) % 4 = q by omega] at b
  exact (nxt_nd b).2
theorem impl_walk_loop (w h : Int) (l p : List Int) (t : Int) (hl : l.length ≤ 1048576) (m : meshOk w h l = true) (e : nd w h t = true) (hp : (p.length : Int) = cnt w h * cnt w h) : ∀ (d k : Nat) (a : Int) (out : List Int), nd w h a = true → (out.length : Int) + d = cnt w h → 1048600 + d < k → impl_WalkTable.l0 k t out a w h l p = some (wlk w h l p t d a out) := by
  have bc := cnt_bd w h
  intro d
  induction d with
  | zero =>
    intro k a out da ho hk
    obtain ⟨k, rfl⟩ : ∃ m, k = m + 1 := ⟨k - 1, by omega⟩
    have ba := nd_bd da
    have eP : prt w h l p a t = if inR (rd p (a * cnt w h + t)) 0 4 = true then rd p (a * cnt w h + t) else -1 := by unfold prt; simp [m, da, e, hp]
    simp only [impl_WalkTable.l0]
    rw [impl_PortAt_eq w h l p a t k hl (by omega), eP]
    simp only [wlk]
    generalize hq : rd p (a * cnt w h + t) = q
    simp only [Option.bind_some]
    by_cases c4 : q = 4
    · subst c4
      rw [if_pos (show inR 4 0 4 = true from rfl), if_neg (by omega), if_pos rfl, if_pos rfl]
      by_cases z : a = t
      · rw [if_pos z, if_pos z]
      · rw [if_neg z, if_neg z]
    · rw [if_neg c4]
      by_cases r : inR q 0 4 = true
      · have rb := inR_iff.1 r
        rw [if_pos r, if_neg (by omega), if_neg c4, wrap64_id (x := 4 * a) (by omega) (by omega), wrap64_id (x := 4 * a + q) (by omega) (by omega), impl_HasChannel_eq w h l _ k hl (by omega)]
        simp only [Option.bind_some]
        by_cases c : hasC w h l (4 * a + q) = true
        · rw [if_pos c, impl_NodeCount_eq]
          simp only [Option.bind_some]
          rw [if_pos (by omega)]
        · rw [if_neg c]
      · rw [if_neg r, if_pos (by omega)]
  | succ d ih =>
    intro k a out da ho hk
    obtain ⟨k, rfl⟩ : ∃ m, k = m + 1 := ⟨k - 1, by omega⟩
    have ba := nd_bd da
    have eP : prt w h l p a t = if inR (rd p (a * cnt w h + t)) 0 4 = true then rd p (a * cnt w h + t) else -1 := by unfold prt; simp [m, da, e, hp]
    simp only [impl_WalkTable.l0]
    rw [impl_PortAt_eq w h l p a t k hl (by omega), eP]
    simp only [wlk]
    generalize hq : rd p (a * cnt w h + t) = q
    simp only [Option.bind_some]
    by_cases c4 : q = 4
    · subst c4
      rw [if_pos (show inR 4 0 4 = true from rfl), if_neg (by omega), if_pos rfl, if_pos rfl]
      by_cases z : a = t
      · rw [if_pos z, if_pos z]
      · rw [if_neg z, if_neg z]
    · rw [if_neg c4]
      by_cases r : inR q 0 4 = true
      · have rb := inR_iff.1 r
        have r3 : inR q 0 3 = true := inR_iff.2 (by omega)
        rw [if_pos r, if_neg (by omega), if_neg c4, wrap64_id (x := 4 * a) (by omega) (by omega), wrap64_id (x := 4 * a + q) (by omega) (by omega), impl_HasChannel_eq w h l _ k hl (by omega)]
        simp only [Option.bind_some, r3, Bool.true_and]
        by_cases c : hasC w h l (4 * a + q) = true
        · rw [if_pos c, impl_NodeCount_eq, if_pos c]
          simp only [Option.bind_some]
          rw [if_neg (by omega), if_pos (by omega), impl_endOf_eq w h l _ (by omega) (by omega), show (4 * a + q) / 4 = a by omega, show (4 * a + q) % 4 = q by omega]
          simp only [Option.bind_some]
          rw [ih k _ _ (hasC_lead c (by omega) (by omega)).1 (by simp; omega) (by omega)]
        · rw [if_neg c, if_neg c]
      · have r3 : inR q 0 3 = false := inR_no.2 (fun x => r (inR_iff.2 (by omega)))
        rw [if_neg r, if_pos (by omega), if_neg (by simp [r3])]
def wt (w h : Int) (l p : List Int) (a b : Int) : List Int := wlk w h l p b (cnt w h).toNat a []
theorem wlk_len (w h : Int) (l p : List Int) (t : Int) : ∀ (d : Nat) (a : Int) (out : List Int), (wlk w h l p t d a out).length ≤ out.length + d
  | 0, a, out => by
    simp only [wlk]
    split
    · split <;> simp
    · simp
  | d + 1, a, out => by
    simp only [wlk]
    split
    · split <;> simp
    · split
      · have := wlk_len w h l p t d (nxt w h a (rd p (a * cnt w h + t))) (out ++ [4 * a + rd p (a * cnt w h + t)])
        simp at this; omega
      · simp
theorem wt_len (w h : Int) (l p : List Int) (a b : Int) : (wt w h l p a b).length ≤ 16 := by
  have q := wlk_len w h l p b (cnt w h).toNat a []
  have := cnt_bd w h
  unfold wt
  simp only [List.length_nil, Nat.zero_add] at q
  omega
/-- the walk, where the mesh, the table's size and the nodes are good -/
def wtb (w h : Int) (l p : List Int) (a b : Int) : List Int := if (decide (a ≠ b) && (meshOk w h l && (nd w h a && (nd w h b && decide ((p.length : Int) = cnt w h * cnt w h))))) = true then wt w h l p a b else []
theorem impl_WalkTable_eq (w h : Int) (l p : List Int) (a b : Int) (k : Nat) (hl : l.length ≤ 1048576) (hk : 1048700 < k) : impl_WalkTable.f k w h l p a b = some (wtb w h l p a b) := by
  have bc := cnt_bd w h
  obtain ⟨k, rfl⟩ : ∃ m, k = m + 1 + 1 := ⟨k - 2, by omega⟩
  unfold impl_WalkTable.f wtb
  by_cases z : a = b
  · rw [if_pos z]; simp [impl_WalkTable.j0, z]
  rw [if_neg z, impl_MeshOk_eq w h l _ hl (by omega), impl_isNode_eq, impl_isNode_eq]
  simp only [Option.bind_some, impl_WalkTable.j0]
  by_cases m : meshOk w h l = true
  · rw [if_pos m]
    by_cases da : nd w h a = true
    · rw [if_pos da]
      by_cases e : nd w h b = true
      · rw [if_neg (by simp [e])]
        by_cases hp : (p.length : Int) = cnt w h * cnt w h
        · rw [if_pos (by simp [z, m, da, e, hp])]
          exact impl_walk_loop w h l p b hl m e hp _ (k + 1) a [] da (by simp; omega) (by omega)
        · rw [if_neg (by simp [hp])]
          simp only [impl_WalkTable.l0]
          rw [impl_PortAt_eq w h l p a b k hl (by omega), show prt w h l p a b = -1 by unfold prt; simp [hp]]
          rfl
      · rw [if_pos (by simp [e]), if_neg (by simp [e])]
    · rw [if_neg da]; simp [da]
  · rw [if_neg m]; simp [m]

theorem pall_all (n i : Nat) (f : Int → Int → Bool) : ((pall n i).all fun e => f e.1 e.2) = ((List.range' i (n - i)).all fun (a : Nat) => (List.range' 0 n).all fun (b : Nat) => (decide (a = b) || f (a : Int) (b : Int))) := by
  unfold pall prow
  rw [List.all_flatMap]
  congr 1
  funext a
  rw [List.all_map, List.all_filter]
  congr 1
  funext b
  by_cases z : a = b <;> simp [z]
def diagOk (n : Nat) (p : List Int) (i d : Nat) : Bool := (List.range' i d).all fun (j : Nat) => decide (rd p (((j : Nat) : Int) * (n : Int) + (j : Int)) = 4)
def wOk (w h : Int) (l p : List Int) (a b : Int) : Bool := decide ((wt w h l p a b).length ≠ 0)
def cellOk (w h : Int) (l p : List Int) (n a b : Nat) : Bool := if a = b then decide (rd p (((a : Nat) : Int) * (n : Int) + (a : Int)) = 4) else wOk w h l p a b
def rowOk (w h : Int) (l p : List Int) (n a b d : Nat) : Bool := (List.range' b d).all fun (j : Nat) => cellOk w h l p n a j
def allOk (w h : Int) (l p : List Int) (n a d : Nat) : Bool := (List.range' a d).all fun (i : Nat) => rowOk w h l p n i 0 n
theorem idx_bd {n a b : Nat} (hn : n ≤ 16) (ha : a < n) (hb : b < n) : a * n + b < n * n ∧ a * n ≤ 256 := by
  have h1 : (a + 1) * n ≤ n * n := Nat.mul_le_mul_right _ ha
  have h2 : a * n ≤ 16 * 16 := Nat.mul_le_mul (by omega) hn
  rw [Nat.succ_mul] at h1
  omega
theorem nd_nat {w h : Int} {n a : Nat} (hn : cnt w h = (n : Int)) (ha : a < n) : nd w h (a : Int) = true := by rw [nd_iff]; omega
theorem impl_diag_loop (n : Nat) (p : List Int) (hn : n ≤ 16) (hp : p.length = n * n) : ∀ (d i k : Nat), i + d = n → d < k → impl_TableOk.l0 k (n : Int) (i : Int) p = some (diagOk n p i d) := by
  intro d
  induction d with
  | zero =>
    intro i k hi hk
    obtain ⟨k, rfl⟩ : ∃ m, k = m + 1 := ⟨k - 1, by omega⟩
    simp only [impl_TableOk.l0]
    rw [if_neg (by omega)]
    rfl
  | succ d ih =>
    intro i k hi hk
    obtain ⟨k, rfl⟩ : ∃ m, k = m + 1 := ⟨k - 1, by omega⟩
    obtain ⟨b1, b2⟩ := idx_bd hn (show i < n by omega) (show i < n by omega)
    have e1 : (i : Int) * (n : Int) = ((i * n : Nat) : Int) := by simp
    simp only [impl_TableOk.l0]
    rw [if_pos (by omega), e1, wrap64_id (x := ((i * n : Nat) : Int)) (by omega) (by omega), wrap64_id (x := ((i * n : Nat) : Int) + (i : Int)) (by omega) (by omega), if_pos (by omega), if_pos (by omega), w64s (by omega)]
    have e2 : diagOk n p i (d + 1) = (decide (rd p (((i * n : Nat) : Int) + (i : Int)) = 4) && diagOk n p (i + 1) d) := by unfold diagOk; rw [List.range'_succ, List.all_cons, e1]
    rw [e2]
    by_cases q : rd p (((i * n : Nat) : Int) + (i : Int)) = 4
    · rw [if_pos q, ih (i + 1) k (by omega) (by omega), decide_eq_true q, Bool.true_and]
    · rw [if_neg q, decide_eq_false q, Bool.false_and]
theorem impl_wk_eq (w h : Int) (l p : List Int) (n : Nat) (hn : cnt w h = (n : Int)) (k : Nat) (hl : l.length ≤ 1048576) (m : meshOk w h l = true) (hp : (p.length : Int) = cnt w h * cnt w h) (hk : 1048700 < k) : ∀ r : List (Int × Int), (∀ e ∈ r, e.1 ≠ e.2 ∧ nd w h e.1 = true ∧ nd w h e.2 = true) → impl_TableOk.wk k w h l p r = some (r.all fun e => wOk w h l p e.1 e.2)
  | [], _ => rfl
  | (a, b) :: r, hr => by
    have h1 := hr (a, b) List.mem_cons_self
    simp only at h1
    unfold impl_TableOk.wk
    rw [impl_WalkTable_eq w h l p a b k hl hk, show wtb w h l p a b = wt w h l p a b by unfold wtb; simp [h1.1, m, h1.2.1, h1.2.2, hp]]
    simp only [Option.bind_some, List.all_cons]
    have ih := impl_wk_eq w h l p n hn k hl m hp hk r (fun e he => hr e (List.mem_cons_of_mem _ he))
    by_cases q : (wt w h l p a b).length = 0
    · rw [if_neg (by omega)]; simp [wOk, q]
    · rw [if_pos (by omega), ih]; simp [wOk, q]
theorem pall_mem {w h : Int} {n : Nat} (hn : cnt w h = (n : Int)) {e : Int × Int} (he : e ∈ pall n 0) : e.1 ≠ e.2 ∧ nd w h e.1 = true ∧ nd w h e.2 = true := by
  unfold pall prow at he
  simp only [List.mem_flatMap, List.mem_map, List.mem_filter, List.mem_range', decide_eq_true_eq] at he
  obtain ⟨a, ⟨i, hi, rfl⟩, b, ⟨⟨j, hj, rfl⟩, hne⟩, rfl⟩ := he
  exact ⟨by simp only; omega, nd_nat hn (by omega), nd_nat hn (by omega)⟩
def tabOk (w h : Int) (l p : List Int) : Bool := meshOk w h l && (decide ((p.length : Int) = cnt w h * cnt w h) && allOk w h l p (cnt w h).toNat 0 (cnt w h).toNat)
theorem allOk_split (w h : Int) (l p : List Int) (n : Nat) : allOk w h l p n 0 n = (diagOk n p 0 n && ((pall n 0).all fun e => wOk w h l p e.1 e.2)) := by
  rw [pall_all n 0 (wOk w h l p), Bool.eq_iff_iff, Bool.and_eq_true]
  unfold allOk rowOk diagOk cellOk
  simp only [List.all_eq_true, List.mem_range', Nat.sub_zero, Bool.or_eq_true, decide_eq_true_eq]
  constructor
  · intro H
    refine ⟨fun x hx => ?_, fun x hx y hy => ?_⟩
    · have := H x hx x hx; rw [if_pos rfl] at this; exact of_decide_eq_true this
    · have := H x hx y hy
      by_cases z : x = y
      · exact Or.inl z
      · rw [if_neg z] at this; exact Or.inr this
  · rintro ⟨H1, H2⟩ x hx y hy
    by_cases z : x = y
    · rw [if_pos z]; exact decide_eq_true (H1 x hx)
    · rw [if_neg z]; exact (H2 x hx y hy).resolve_left z
theorem wt_diag {w h : Int} {l p : List Int} {a : Int} (q : rd p (a * cnt w h + a) = 4) : wt w h l p a a = [] := by
  unfold wt
  cases (cnt w h).toNat with
  | zero => simp only [wlk]; rw [if_pos q]; simp
  | succ d => simp only [wlk]; rw [if_pos q]; simp
theorem tab_diag {w h : Int} {l p : List Int} {n : Nat} (hn : cnt w h = (n : Int)) (t : tabOk w h l p = true) {a : Nat} (ha : a < n) : wt w h l p (a : Int) (a : Int) = [] := by
  unfold tabOk at t
  simp only [Bool.and_eq_true] at t
  have t2 := t.2.2
  rw [hn, Int.toNat_natCast, allOk_split, Bool.and_eq_true] at t2
  have := List.all_eq_true.1 t2.1 a (List.mem_range'.2 ⟨a, ha, by simp⟩)
  exact wt_diag (by rw [hn]; exact of_decide_eq_true this)
theorem impl_TableOk_eq (w h : Int) (l p : List Int) (k : Nat) (hl : l.length ≤ 1048576) (hk : 1060000 < k) : impl_TableOk.f k w h l p = some (tabOk w h l p) := by
  have bc := cnt_bd w h
  obtain ⟨n, hn⟩ : ∃ n : Nat, cnt w h = (n : Int) := ⟨(cnt w h).toNat, by omega⟩
  have hc : cnt w h * cnt w h ≤ 16 * cnt w h := Int.mul_le_mul_of_nonneg_right (by omega) (by omega)
  have hc0 : 0 ≤ cnt w h * cnt w h := Int.mul_nonneg (by omega) (by omega)
  unfold impl_TableOk.f tabOk
  rw [impl_NodeCount_eq, impl_MeshOk_eq w h l k hl (by omega)]
  simp only [Option.bind_some]
  rw [wrap64_id (x := cnt w h * cnt w h) (by omega) (by omega)]
  by_cases m : meshOk w h l = true
  · rw [if_pos m]
    by_cases hp : (p.length : Int) = cnt w h * cnt w h
    · have hpN : p.length = n * n := by rw [hn] at hp; exact_mod_cast hp
      rw [if_pos hp, hn, show (0 : Int) = ((0 : Nat) : Int) from rfl, impl_diag_loop n p (by omega) hpN n 0 k (by omega) (by omega)]
      simp only [Option.bind_some, Int.toNat_natCast]
      rw [allOk_split, impl_wk_eq w h l p n hn k hl m hp (by omega) (pall n 0) (fun e he => pall_mem hn he)]
      by_cases dg : diagOk n p 0 n = true
      · rw [if_pos dg]; simp [m, dg, hpN]
      · rw [if_neg dg]; simp [dg]
    · rw [if_neg hp]; simp [hp]
  · rw [if_neg m]; simp [m]

theorem drawTable_ok (b : List Int) (k : Nat) (hb : b.length ≤ 1048576) (hk : 4000 < k) : ∃ w h r, spec_DrawTable.f k b = some (w, h, [], stdT w h r) ∧ w ∈ [(1 : Int), 2, 3, 4] ∧ h ∈ [(1 : Int), 2, 3, 4] ∧ r ∈ [(1 : Int), 2, 3, 4] := by
  unfold spec_DrawTable.f
  obtain ⟨h0, e0, c0⟩ := new_ok b k hb hk
  rw [e0]
  simp only [Option.bind_some]
  unfold spec_l04Case.f
  obtain ⟨w, h, i, g, e1, c1, m1, m2⟩ := grid_ok (h := h0) c0
  rw [e1]
  simp only [Option.bind_some]
  obtain ⟨r, i', h', e2, c2, r0, r1⟩ := below_ok (h := g) c1 (show (0 : Int) < 4 by omega)
  rw [e2]
  simp only [Option.bind_some]
  rw [wrap64_id (x := 1 + r) (by omega) (by omega), spec_l05Make_eq w h (1 + r) k (gok_iff.2 (by simp at m1 m2; omega)) (inR_iff.2 (by omega)) (by omega)]
  exact ⟨w, h, 1 + r, rfl, m1, m2, by simp; omega⟩

theorem strict_ext {α : Type} {lt : α → α → Prop} (irr : ∀ a, ¬ lt a a) (tr : ∀ a b c, lt a b → lt b c → lt a c) : ∀ {a b : List α}, a.Pairwise lt → b.Pairwise lt → (∀ x, x ∈ a ↔ x ∈ b) → a = b
  | [], [], _, _, _ => rfl
  | [], y :: b, _, _, h => absurd ((h y).2 List.mem_cons_self) (by simp)
  | x :: a, [], _, _, h => absurd ((h x).1 List.mem_cons_self) (by simp)
  | x :: a, y :: b, ha, hb, h => by
    obtain ⟨a1, a2⟩ := List.pairwise_cons.1 ha
    obtain ⟨b1, b2⟩ := List.pairwise_cons.1 hb
    have e : x = y := by
      rcases List.mem_cons.1 ((h x).1 List.mem_cons_self) with e | e
      · exact e
      · rcases List.mem_cons.1 ((h y).2 List.mem_cons_self) with e2 | e2
        · exact e2.symm
        · exact absurd (tr _ _ _ (b1 x e) (a1 y e2)) (irr y)
    subst e
    rw [strict_ext irr tr a2 b2 fun z => ⟨fun hz => ?_, fun hz => ?_⟩]
    · rcases List.mem_cons.1 ((h z).1 (List.mem_cons_of_mem _ hz)) with e | e
      · subst e; exact absurd (a1 z hz) (irr z)
      · exact e
    · rcases List.mem_cons.1 ((h z).2 (List.mem_cons_of_mem _ hz)) with e | e
      · subst e; exact absurd (b1 z hz) (irr z)
      · exact e
theorem upTo_strict {α : Type} [Inhabited α] [DecidableEq α] {le : α → α → Prop} (anti : ∀ a b, le a b → le b a → a = b) (d : Array α) (hs : ∀ i j, i < j → j < d.size → le d[i]! d[j]!) : ∀ m, m ≤ d.size → (Lib.compactUpTo d m).Pairwise (fun a b => le a b ∧ a ≠ b) ∧ ∀ x, x ∈ Lib.compactUpTo d m ↔ ∃ j, j < m ∧ d[j]! = x := by
  intro m
  induction m with
  | zero => intro _; exact ⟨by simp [Lib.compactUpTo], by simp [Lib.compactUpTo]⟩
  | succ m ih =>
    intro hm
    obtain ⟨h1, h2⟩ := ih (by omega)
    rw [Lib.compactUpTo_succ]
    by_cases q : Lib.keeps d m = true
    · rw [if_pos q]
      refine ⟨List.pairwise_append.2 ⟨h1, by simp, fun x hx y hy => ?_⟩, fun x => ?_⟩
      · obtain rfl := List.mem_singleton.1 hy
        obtain ⟨j, hj, rfl⟩ := (h2 x).1 hx
        refine ⟨hs j m hj (by omega), fun e => ?_⟩
        unfold Lib.keeps at q
        rcases of_decide_eq_true q with z | z
        · omega
        · apply z
          have l1 : le d[m - 1]! d[m]! := hs _ _ (by omega) (by omega)
          by_cases w : j = m - 1
          · rw [← w]; exact e.symm
          · have l2 := hs j (m - 1) (by omega) (by omega)
            rw [e] at l2
            exact anti _ _ l2 l1
      · rw [List.mem_append, List.mem_singleton, h2]
        constructor
        · rintro (⟨j, hj, e⟩ | e)
          · exact ⟨j, by omega, e⟩
          · exact ⟨m, by omega, e.symm⟩
        · rintro ⟨j, hj, e⟩
          by_cases z : j = m
          · subst z; exact Or.inr e.symm
          · exact Or.inl ⟨j, by omega, e⟩
    · rw [if_neg q, List.append_nil]
      refine ⟨h1, fun x => ?_⟩
      rw [h2]
      constructor
      · rintro ⟨j, hj, e⟩; exact ⟨j, by omega, e⟩
      · rintro ⟨j, hj, e⟩
        by_cases z : j = m
        · unfold Lib.keeps at q
          have q2 : ¬ (m = 0 ∨ d[m]! ≠ d[m - 1]!) := fun w => q (decide_eq_true w)
          rw [not_or] at q2
          exact ⟨m - 1, by omega, by rw [← e, z]; exact (Classical.not_not.1 q2.2).symm⟩
        · exact ⟨j, by omega, e⟩
theorem compact_strict {α : Type} [Inhabited α] [DecidableEq α] {le : α → α → Bool} (tr : ∀ a b c, le a b = true → le b c = true → le a c = true) (tot : ∀ a b, (le a b || le b a) = true) (anti : ∀ a b, le a b = true → le b a = true → a = b) (l : List α) : (Lib.compact (l.mergeSort le)).Pairwise (fun a b => le a b = true ∧ a ≠ b) ∧ ∀ x, x ∈ Lib.compact (l.mergeSort le) ↔ x ∈ l := by
  have hp := List.pairwise_mergeSort tr tot l
  have hs : ∀ i j, i < j → j < (l.mergeSort le).toArray.size → le (l.mergeSort le).toArray[i]! (l.mergeSort le).toArray[j]! = true := by
    intro i j hij hj
    have hj' : j < (l.mergeSort le).length := by simpa using hj
    rw [getElem!_pos _ i (by simp at hj ⊢; omega), getElem!_pos _ j hj]
    exact List.pairwise_iff_getElem.1 hp i j (by omega) hj' hij
  obtain ⟨h1, h2⟩ := upTo_strict (le := fun a b => le a b = true) anti (l.mergeSort le).toArray hs (l.mergeSort le).length (by simp)
  refine ⟨h1, fun x => (h2 x).trans ?_⟩
  rw [← List.mem_mergeSort (le := le), List.mem_iff_getElem]
  constructor
  · rintro ⟨j, hj, e⟩
    refine ⟨j, hj, ?_⟩
    rw [← e, getElem!_pos _ j (by simpa using hj)]
    simp
  · rintro ⟨j, hj, e⟩
    refine ⟨j, hj, ?_⟩
    rw [← e, getElem!_pos _ j (by simpa using hj)]
    simp

/-- the visits of a table: each two adjacent channels of each walk -/
def vis (w h : Int) (l p : List Int) : List (Int × Int) := (pall (cnt w h).toNat 0).flatMap fun e => adf (wt w h l p e.1 e.2) 1
theorem adf_len (x : List Int) (i : Nat) : (adf x i).length ≤ x.length := by unfold adf; simp
theorem adf_mem {x : List Int} {i : Nat} {q : Int × Int} (hi : 1 ≤ i) (h : q ∈ adf x i) : q.1 ∈ x ∧ q.2 ∈ x := by
  unfold adf at h
  obtain ⟨j, hj, rfl⟩ := List.mem_map.1 h
  obtain ⟨d, hd, rfl⟩ := List.mem_range'.1 hj
  constructor
  · simp only; rw [rd_nat _ _ (by omega)]; exact List.getElem_mem _
  · simp only; rw [rd_nat _ _ (by omega)]; exact List.getElem_mem _
theorem impl_adj_eq (w h : Int) (l p : List Int) (k : Nat) (hl : l.length ≤ 1048576) (m : meshOk w h l = true) (hp : (p.length : Int) = cnt w h * cnt w h) (hk : 1048700 < k) : ∀ r : List (Int × Int), (∀ e ∈ r, e.1 ≠ e.2 ∧ nd w h e.1 = true ∧ nd w h e.2 = true) → impl_adjacent.wk k w h l p r = some (r.flatMap fun e => adf (wt w h l p e.1 e.2) 1)
  | [], _ => rfl
  | (a, b) :: r, hr => by
    have h1 := hr (a, b) List.mem_cons_self
    simp only at h1
    unfold impl_adjacent.wk
    rw [impl_WalkTable_eq w h l p a b k hl hk, show wtb w h l p a b = wt w h l p a b by unfold wtb; simp [h1.1, m, h1.2.1, h1.2.2, hp]]
    simp only [Option.bind_some]
    rw [impl_adj_eq w h l p k hl m hp hk r (fun e he => hr e (List.mem_cons_of_mem _ he))]
    rfl
theorem hasC_64 {w h : Int} {l : List Int} {c : Int} (q : hasC w h l c = true) : 0 ≤ c ∧ c < 64 := by
  unfold hasC at q
  simp only [Bool.and_eq_true] at q
  have b := leads_iff.1 q.2.1
  have := cnt_bd w h
  omega
theorem wlk_bd (w h : Int) (l p : List Int) (t : Int) : ∀ (d : Nat) (a : Int) (out : List Int), (∀ c ∈ out, 0 ≤ c ∧ c < 64) → ∀ c ∈ wlk w h l p t d a out, 0 ≤ c ∧ c < 64
  | 0, a, out, ho, c, hc => by
    unfold wlk at hc
    split at hc
    · split at hc
      · exact ho c hc
      · simp at hc
    · simp at hc
  | d + 1, a, out, ho, c, hc => by
    unfold wlk at hc
    split at hc
    · split at hc
      · exact ho c hc
      · simp at hc
    · split at hc
      · rename_i z
        simp only [Bool.and_eq_true] at z
        have b := hasC_64 z.2
        refine wlk_bd w h l p t d _ _ (fun c hc => ?_) c hc
        rcases List.mem_append.1 hc with hc | hc
        · exact ho c hc
        · obtain rfl := List.mem_singleton.1 hc
          exact b
      · simp at hc
theorem wt_bd {w h : Int} {l p : List Int} {a b c : Int} (hc : c ∈ wt w h l p a b) : 0 ≤ c ∧ c < 64 := wlk_bd w h l p b _ a [] (by simp) c hc
theorem vis_bd {w h : Int} {l p : List Int} {q : Int × Int} (hq : q ∈ vis w h l p) : (0 ≤ q.1 ∧ q.1 < 64) ∧ 0 ≤ q.2 ∧ q.2 < 64 := by
  unfold vis at hq
  obtain ⟨e, he, hq⟩ := List.mem_flatMap.1 hq
  have z := adf_mem (by omega) hq
  exact ⟨wt_bd z.1, wt_bd z.2⟩
theorem flat_len (f : Int × Int → List (Int × Int)) (K : Nat) (hf : ∀ e, (f e).length ≤ K) : ∀ r : List (Int × Int), (r.flatMap f).length ≤ K * r.length
  | [] => by simp
  | e :: r => by
    have h1 := flat_len f K hf r
    have h2 := hf e
    rw [List.flatMap_cons, List.length_append, List.length_cons, Nat.mul_succ]
    omega
theorem pall_len (n i : Nat) : (pall n i).length ≤ n * (n - i) := by
  unfold pall
  have key : ∀ (L : List Nat), (L.flatMap fun a => prow n a 0).length ≤ n * L.length := by
    intro L
    induction L with
    | nil => simp
    | cons a L ih =>
      rw [List.flatMap_cons, List.length_append, List.length_cons, Nat.mul_succ]
      have h2 : (prow n a 0).length ≤ n := by
        unfold prow
        rw [List.length_map]
        have := List.length_filter_le (fun (b : Nat) => decide (a ≠ b)) (List.range' 0 (n - 0))
        rw [List.length_range'] at this
        omega
      omega
  have h := key (List.range' i (n - i))
  rw [List.length_range'] at h
  exact h
theorem vis_len (w h : Int) (l p : List Int) : (vis w h l p).length ≤ 4096 := by
  have bc := cnt_bd w h
  have h1 := flat_len (fun e => adf (wt w h l p e.1 e.2) 1) 16 (fun e => by have a := adf_len (wt w h l p e.1 e.2) 1; have b := wt_len w h l p e.1 e.2; omega) (pall (cnt w h).toNat 0)
  have h2 := pall_len (cnt w h).toNat 0
  have h3 : (cnt w h).toNat * ((cnt w h).toNat - 0) ≤ 16 * 16 := Nat.mul_le_mul (by omega) (by omega)
  unfold vis
  omega

theorem rdp_nat (l : List S83) (i : Nat) (h : i < l.length) : rd_T83 l (i : Int) = l[i] := by unfold rd_T83; simp [h]
theorem drop_rdp (l : List S83) (i : Nat) (h : i < l.length) : l.drop i = rd_T83 l (i : Int) :: l.drop (i + 1) := by
  rw [rdp_nat l i h]; exact List.drop_eq_getElem_cons h
def ltp (p q : S83) : Bool := decide (p.f0 < q.f0) || (decide (p.f0 = q.f0) && decide (p.f1 < q.f1))
def inp (p : S83) : Bool := inR p.f0 0 127 && inR p.f1 0 127
def depFrom : Option S83 → List S83 → Bool
  | _, [] => true
  | none, c :: r => inp c && depFrom (some c) r
  | some q, c :: r => inp c && (ltp q c && depFrom (some c) r)
def depOk (l : List S83) : Bool := depFrom none l

theorem ltp_iff {p q : S83} : ltp p q = true ↔ p.f0 < q.f0 ∨ (p.f0 = q.f0 ∧ p.f1 < q.f1) := by unfold ltp; simp
theorem ltp_irr (p : S83) : ¬ ltp p p = true := by rw [ltp_iff]; omega
theorem ltp_tr (a b c : S83) (h1 : ltp a b = true) (h2 : ltp b c = true) : ltp a c = true := by rw [ltp_iff] at *; omega
theorem dep_ext {p q : S83} (h0 : p.f0 = q.f0) (h1 : p.f1 = q.f1) : p = q := by cases p; cases q; simp_all
theorem ltp_tot {p q : S83} (h1 : ¬ ltp p q = true) (h2 : ¬ p = q) : ltp q p = true := by
  rw [ltp_iff] at *
  by_cases e : p.f0 = q.f0
  · by_cases e1 : p.f1 = q.f1
    · exact absurd (dep_ext e e1) h2
    · omega
  · omega
theorem depLe_iff {p q : S83} : depLe p q = true ↔ p.f0 < q.f0 ∨ (p.f0 = q.f0 ∧ p.f1 ≤ q.f1) := by unfold depLe; exact decide_eq_true_iff
theorem depIn_eq (p : S83) : depIn p = inp p := by
  unfold depIn inp inR
  by_cases h : 0 ≤ p.f0 ∧ p.f0 ≤ 127 ∧ 0 ≤ p.f1 ∧ p.f1 ≤ 127
  · rw [decide_eq_true h]; simp [h]
  · rw [decide_eq_false h]
    simp only [Bool.false_eq, Bool.and_eq_false_iff, decide_eq_false_iff_not]
    omega
/-- the list in ascending order, each once -/
def dsort (l : List S83) : List S83 := Lib.compact (l.mergeSort depLe)
theorem dsort_ok (l : List S83) : (dsort l).Pairwise (fun a b => ltp a b = true) ∧ ∀ x, x ∈ dsort l ↔ x ∈ l := by
  obtain ⟨h1, h2⟩ := compact_strict (le := depLe) (fun a b c h1 h2 => by rw [depLe_iff] at *; omega) (fun a b => by rw [Bool.or_eq_true, depLe_iff, depLe_iff]; omega) (fun a b h1 h2 => by rw [depLe_iff] at *; exact dep_ext (by omega) (by omega)) l
  refine ⟨h1.imp ?_, h2⟩
  rintro a b ⟨h3, h4⟩
  rw [depLe_iff] at h3
  rw [ltp_iff]
  by_cases e : a.f0 = b.f0
  · by_cases e1 : a.f1 = b.f1
    · exact absurd (dep_ext e e1) h4
    · omega
  · omega
theorem dsort_len (l : List S83) : (dsort l).length ≤ l.length := by
  unfold dsort Lib.compact Lib.compactUpTo
  rw [List.length_map]
  have h := List.length_filter_le (Lib.keeps (l.mergeSort depLe).toArray) (List.range (l.mergeSort depLe).length)
  rw [List.length_range, List.length_mergeSort] at h
  rw [List.length_mergeSort]
  exact h
theorem asc_ext {a b : List S83} (ha : a.Pairwise (fun a b => ltp a b = true)) (hb : b.Pairwise (fun a b => ltp a b = true)) (h : ∀ x, x ∈ a ↔ x ∈ b) : a = b := strict_ext ltp_irr ltp_tr ha hb h
theorem impl_arranged_eq (l : List S83) (hl : l.length ≤ 100000000) (h : ∀ p ∈ l, inp p = true) : impl_arranged.f l = some (dsort l) := by
  unfold impl_arranged.f
  rw [if_pos (List.all_eq_true.2 fun p hp => by rw [depIn_eq]; exact h p hp), if_pos hl]
  rfl

def mkd (V : List (Int × Int)) : List S83 := V.map fun q => ⟨q.1, q.2⟩
def depsM (w h : Int) (l p : List Int) : List S83 := if tabOk w h l p = true then dsort (mkd (vis w h l p)) else []
theorem mkd_in {w h : Int} {l p : List Int} {x : S83} (hx : x ∈ mkd (vis w h l p)) : inp x = true := by
  unfold mkd at hx
  obtain ⟨q, hq, rfl⟩ := List.mem_map.1 hx
  have b := vis_bd hq
  unfold inp inR
  simp only [Bool.and_eq_true, decide_eq_true_eq]
  omega
theorem impl_DependsOf_eq (w h : Int) (l p : List Int) (k : Nat) (hl : l.length ≤ 1048576) (hk : 1060000 < k) : impl_DependsOf.f k w h l p = some (depsM w h l p) := by
  have bc := cnt_bd w h
  unfold impl_DependsOf.f depsM
  rw [impl_TableOk_eq w h l p k hl hk]
  simp only [Option.bind_some]
  by_cases t : tabOk w h l p = true
  · have t3 := t
    unfold tabOk at t3
    simp only [Bool.and_eq_true, decide_eq_true_eq] at t3
    rw [if_pos t, if_pos t, impl_NodeCount_eq]
    simp only [Option.bind_some]
    rw [impl_adj_eq w h l p k hl t3.1 t3.2.1 (by omega) (pall (cnt w h).toNat 0) (fun e he => pall_mem (n := (cnt w h).toNat) (by omega) he)]
    simp only [Option.bind_some]
    have vl := vis_len w h l p
    have e1 := impl_arranged_eq (mkd (vis w h l p)) (by unfold mkd; rw [List.length_map]; omega) (fun x hx => mkd_in hx)
    have e2 : mkd (vis w h l p) = (vis w h l p).foldl impl_DependsOf.st [] := by rw [impl_DependsOf.st_fold]; rfl
    rw [e2] at e1 ⊢
    unfold vis at vl e1 ⊢
    rw [if_pos (by omega), e1]
  · rw [if_neg t, if_neg t]
theorem depsM_len (w h : Int) (l p : List Int) : (depsM w h l p).length ≤ 4096 := by
  unfold depsM
  split
  · have h1 := dsort_len (mkd (vis w h l p))
    have h2 := vis_len w h l p
    unfold mkd at *
    rw [List.length_map] at h1
    omega
  · simp

theorem l08Less_eq (p q : S83) : spec_l08Less.f p.f0 p.f1 q.f0 q.f1 = some (ltp p q) := by
  unfold spec_l08Less.f ltp
  by_cases c : p.f0 < q.f0
  · rw [if_pos c]; simp [c]
  · rw [if_neg c]
    by_cases c2 : p.f0 = q.f0
    · rw [if_pos c2]; simp [c2]
    · rw [if_neg c2]; simp [c, c2]
theorem put_loop (l : List S83) (d : S83) (hn : l.length ≤ 1048576) (hs : l.Pairwise (fun a b => ltp a b = true)) : ∀ (j k : Nat), j ≤ l.length → j < k → (∀ x ∈ l.drop j, ltp d x = true) → ∃ r, spec_l08Put.l0 k l (j : Int) d.f0 d.f1 = some r ∧ r.Pairwise (fun a b => ltp a b = true) ∧ (∀ x, x ∈ r ↔ x = d ∨ x ∈ l) ∧ r.length ≤ l.length + 1 := by
  have ins : ∀ j : Nat, j ≤ l.length → (∀ x ∈ l.take j, ltp x d = true) → (∀ x ∈ l.drop j, ltp d x = true) → (l.take j ++ [d] ++ l.drop j).Pairwise (fun a b => ltp a b = true) ∧ (∀ x, x ∈ l.take j ++ [d] ++ l.drop j ↔ x = d ∨ x ∈ l) := by
    intro j hj h1 h2
    have hs2 := hs
    rw [← List.take_append_drop j l, List.pairwise_append] at hs2
    refine ⟨List.pairwise_append.2 ⟨List.pairwise_append.2 ⟨hs2.1, by simp, fun x hx y hy => by obtain rfl := List.mem_singleton.1 hy; exact h1 x hx⟩, hs2.2.1, fun x hx y hy => ?_⟩, fun x => ?_⟩
    · rcases List.mem_append.1 hx with hx | hx
      · exact hs2.2.2 x hx y hy
      · obtain rfl := List.mem_singleton.1 hx; exact h2 y hy
    · have e : x ∈ l ↔ x ∈ l.take j ∨ x ∈ l.drop j := by rw [← List.mem_append, List.take_append_drop]
      rw [e]
      simp only [List.mem_append, List.mem_singleton]
      constructor
      · rintro ((h | h) | h)
        · exact Or.inr (Or.inl h)
        · exact Or.inl h
        · exact Or.inr (Or.inr h)
      · rintro (h | h | h)
        · exact Or.inl (Or.inr h)
        · exact Or.inl (Or.inl h)
        · exact Or.inr h
  intro j
  induction j with
  | zero =>
    intro k hj hk hd
    obtain ⟨k, rfl⟩ : ∃ m, k = m + 1 := ⟨k - 1, by omega⟩
    have i := ins 0 hj (by simp) hd
    simp only [spec_l08Put.l0]
    rw [if_neg (by omega)]
    simp only [Option.bind_some]
    have e0 : (((0 : Nat) : Int)).toNat = 0 := rfl
    rw [if_pos (by omega), if_pos (by omega), e0]
    simp only [Option.bind_some, List.length_nil, List.length_take, List.length_append, List.length_drop, List.length_singleton, List.nil_append]
    rw [if_pos (by omega), if_pos (by omega), if_pos (by omega)]
    exact ⟨_, rfl, i.1, i.2, by simp⟩
  | succ j ih =>
    intro k hj hk hd
    obtain ⟨k, rfl⟩ : ∃ m, k = m + 1 := ⟨k - 1, by omega⟩
    simp only [spec_l08Put.l0]
    rw [if_pos (by omega), w64p (by omega) (by omega), if_pos (by omega), if_pos (by omega)]
    simp only [Nat.add_sub_cancel]
    rw [l08Less_eq d (rd_T83 l (j : Int)), rdp_nat l j (by omega)]
    simp only [Option.bind_some]
    by_cases c : ltp d l[j] = true
    · rw [if_pos c]
      exact ih k (by omega) (by omega) (fun x hx => by
        rw [List.drop_eq_getElem_cons (show j < l.length by omega)] at hx
        rcases List.mem_cons.1 hx with rfl | hx
        · exact c
        · exact hd x hx)
    · rw [if_neg c]
      by_cases z : l[j] = d
      · rw [if_pos (by rw [z]; simp)]
        exact ⟨l, rfl, hs, fun x => ⟨Or.inr, fun h => by rcases h with rfl | h; exact z ▸ List.getElem_mem _; exact h⟩, by omega⟩
      · rw [if_neg (by simp only [Bool.and_eq_true, beq_iff_eq]; rintro ⟨h0, h1⟩; exact z (dep_ext h0 h1))]
        have lt := ltp_tot c (fun e => z e.symm)
        have i := ins (j + 1) hj (fun x hx => by
          rw [List.take_succ_eq_append_getElem (show j < l.length by omega)] at hx
          rcases List.mem_append.1 hx with hx | hx
          · have hs2 := hs
            rw [← List.take_append_drop j l, List.pairwise_append] at hs2
            exact ltp_tr _ _ _ (hs2.2.2 x hx l[j] (by rw [List.drop_eq_getElem_cons (show j < l.length by omega)]; exact List.mem_cons_self)) lt
          · obtain rfl := List.mem_singleton.1 hx; exact lt) hd
        have e0 : (((j + 1 : Nat) : Int)).toNat = j + 1 := by simp
        rw [if_pos (by omega), if_pos (by omega), e0]
        simp only [Option.bind_some, List.length_nil, List.length_take, List.length_append, List.length_drop, List.length_singleton, List.nil_append]
        rw [if_pos (by omega), if_pos (by omega), if_pos (by omega)]
        exact ⟨_, rfl, i.1, i.2, by simp; omega⟩
theorem put_ok (l : List S83) (a b : Int) (k : Nat) (hn : l.length ≤ 1048576) (hk : 1048577 < k) (hs : l.Pairwise (fun a b => ltp a b = true)) : ∃ r, spec_l08Put.f k l a b = some r ∧ r.Pairwise (fun a b => ltp a b = true) ∧ (∀ x, x ∈ r ↔ x = ⟨a, b⟩ ∨ x ∈ l) ∧ r.length ≤ l.length + 1 := by
  unfold spec_l08Put.f
  exact put_loop l ⟨a, b⟩ hn hs l.length k (Nat.le_refl _) (by omega) (by simp)

theorem compare_eq (p q : S83) (hp : inp p = true) (hq : inp q = true) : ∃ r, impl_compareDepends.f p.f0 p.f1 q.f0 q.f1 = some r ∧ (0 ≤ r ↔ ltp p q = false) ∧ (r < 0 ↔ ltp p q = true) ∧ (r = 0 ↔ p = q) := by
  unfold inp at hp hq
  rw [Bool.and_eq_true, inR_iff, inR_iff] at hp hq
  cases p; cases q
  simp only at hp hq
  unfold impl_compareDepends.f ltp
  simp only
  split
  · rename_i c
    refine ⟨_, rfl, ?_⟩
    rw [wrap64_id (by omega) (by omega)]
    simp [c]
    omega
  · rename_i c
    refine ⟨_, rfl, ?_⟩
    rw [wrap64_id (by omega) (by omega)]
    simp [c]
    omega
theorem impl_DependsOk_loop (l : List S83) (hn : l.length ≤ 9223372036854775806) : ∀ (d i k : Nat), i + d = l.length → d < k → (0 < i → inp (rd_T83 l ((i - 1 : Nat) : Int)) = true) → impl_DependsOk.l0 k l l (l.length : Int) (i : Int) = some (depFrom (if i = 0 then none else some (rd_T83 l ((i - 1 : Nat) : Int))) (l.drop i)) := by
  intro d
  induction d with
  | zero =>
    intro i k hi hk hp
    obtain ⟨k, rfl⟩ : ∃ m, k = m + 1 := ⟨k - 1, by omega⟩
    simp only [impl_DependsOk.l0]
    rw [if_neg (by omega), List.drop_eq_nil_of_le (by omega)]
    simp [depFrom]
  | succ d ih =>
    intro i k hi hk hp
    obtain ⟨k, rfl⟩ : ∃ m, k = m + 1 := ⟨k - 1, by omega⟩
    simp only [impl_DependsOk.l0, impl_inside_eq, Option.bind_some]
    rw [if_pos (by omega), if_pos (by omega), if_pos (by omega), drop_rdp l i (by omega)]
    have e := ih (i + 1) k (by omega) (by omega)
    rw [if_neg (by omega), show i + 1 - 1 = i from by omega] at e
    by_cases c : inR (rd_T83 l (i : Int)).f0 0 127 = true
    · rw [if_pos c]
      by_cases c2 : inR (rd_T83 l (i : Int)).f1 0 127 = true
      · rw [if_pos c2]
        have hi' : inp (rd_T83 l (i : Int)) = true := by unfold inp; rw [c, c2]; rfl
        have e := e (fun _ => hi')
        by_cases z : i = 0
        · subst z
          rw [if_neg (by simp), w64s (by omega), e, if_pos rfl]
          simp only [depFrom, inp, c, c2, Bool.true_and, Bool.and_self]
        · rw [if_pos (by omega), w64p (by omega) (by omega), if_pos (by omega), if_pos (by omega), if_neg z]
          obtain ⟨r, er, r0, r1, _⟩ := compare_eq _ _ (hp (by omega)) hi'
          rw [er]
          simp only [Option.bind_some, depFrom, hi', Bool.true_and]
          by_cases q : r ≥ 0
          · rw [if_pos q, r0.1 q]; simp
          · rw [if_neg q, w64s (by omega), e, r1.1 (by omega)]; simp
      · rw [if_neg c2]
        by_cases z : i = 0 <;> simp [z, depFrom, inp, c2]
        · subst z; simp at c2; simp [c2]
    · rw [if_neg c]
      by_cases z : i = 0 <;> simp [z, depFrom, inp, c]
      · subst z; simp at c; simp [c]
theorem impl_DependsOk_eq (l : List S83) (k : Nat) (hl : l.length ≤ 1048576) (hk : 1048577 < k) : impl_DependsOk.f k l = some (depOk l) := by
  unfold impl_DependsOk.f depOk
  have e := impl_DependsOk_loop l (by omega) l.length 0 k (by omega) (by omega) (by simp)
  simpa using e

theorem depFrom_asc : ∀ (l : List S83) (o : Option S83), depFrom o l = true → l.Pairwise (fun a b => ltp a b = true) ∧ (∀ x ∈ l, inp x = true) ∧ (∀ q, o = some q → ∀ x ∈ l, ltp q x = true)
  | [], _, _ => ⟨by simp, by simp, by simp⟩
  | c :: r, o, h => by
    have h2 : inp c = true ∧ depFrom (some c) r = true ∧ (∀ q, o = some q → ltp q c = true) := by
      cases o with
      | none => simp only [depFrom, Bool.and_eq_true] at h; exact ⟨h.1, h.2, by simp⟩
      | some q => simp only [depFrom, Bool.and_eq_true] at h; exact ⟨h.1, h.2.2, fun q' e => by injection e with e; subst e; exact h.2.1⟩
    obtain ⟨p1, p2, p3⟩ := depFrom_asc r (some c) h2.2.1
    refine ⟨List.pairwise_cons.2 ⟨p3 c rfl, p1⟩, fun x hx => ?_, fun q e x hx => ?_⟩
    · rcases List.mem_cons.1 hx with rfl | hx
      · exact h2.1
      · exact p2 x hx
    · rcases List.mem_cons.1 hx with rfl | hx
      · exact h2.2.2 q e
      · have a := h2.2.2 q e
        have b := p3 c rfl x hx
        unfold ltp at *
        simp only [Bool.or_eq_true, Bool.and_eq_true, decide_eq_true_eq] at *
        omega
theorem depFrom_of : ∀ (l : List S83) (o : Option S83), l.Pairwise (fun a b => ltp a b = true) → (∀ x ∈ l, inp x = true) → (∀ q, o = some q → ∀ x ∈ l, ltp q x = true) → depFrom o l = true
  | [], o, _, _, _ => by cases o <;> rfl
  | c :: r, o, h1, h2, h3 => by
    obtain ⟨a, b⟩ := List.pairwise_cons.1 h1
    have ih := depFrom_of r (some c) b (fun x hx => h2 x (List.mem_cons_of_mem _ hx)) (fun q e x hx => by injection e with e; subst e; exact a x hx)
    cases o with
    | none => simp only [depFrom, ih, h2 c List.mem_cons_self, Bool.and_self]
    | some q => simp only [depFrom, ih, h2 c List.mem_cons_self, h3 q rfl c List.mem_cons_self, Bool.and_self]
theorem depOk_iff (l : List S83) : depOk l = true ↔ l.Pairwise (fun a b => ltp a b = true) ∧ ∀ x ∈ l, inp x = true :=
  ⟨fun h => ⟨(depFrom_asc l none h).1, (depFrom_asc l none h).2.1⟩, fun h => depFrom_of l none h.1 h.2 (by simp)⟩

def mrg (a b : List S83) : List S83 := if (depOk a && depOk b) = true then dsort (a ++ b) else []
theorem mrg_len (a b : List S83) : (mrg a b).length ≤ a.length + b.length := by
  unfold mrg
  split
  · have := dsort_len (a ++ b); rw [List.length_append] at this; exact this
  · simp
theorem impl_MergeDepends_eq (a b : List S83) (k : Nat) (ha : a.length ≤ 1048576) (hb : b.length ≤ 1048576) (hk : 1048577 < k) : impl_MergeDepends.f k a b = some (mrg a b) := by
  unfold impl_MergeDepends.f mrg
  rw [impl_DependsOk_eq a k ha hk, impl_DependsOk_eq b k hb hk]
  simp only [Option.bind_some]
  by_cases c : depOk a = true
  · rw [if_pos c]
    by_cases c2 : depOk b = true
    · rw [if_pos c2, if_pos (by omega), if_pos (by simp [c, c2]), impl_arranged_eq (a ++ b) (by rw [List.length_append]; omega) (fun p hp => by
        rcases List.mem_append.1 hp with hp | hp
        · exact ((depOk_iff a).1 c).2 p hp
        · exact ((depOk_iff b).1 c2).2 p hp)]
    · rw [if_neg c2, if_neg (by simp [c2])]
  · rw [if_neg c, if_neg (by simp [c])]

theorem depsM_mem {w h : Int} {l p : List Int} {x : S83} (hx : x ∈ depsM w h l p) : (x.f0, x.f1) ∈ vis w h l p := by
  unfold depsM at hx
  split at hx
  · have hx := (dsort_ok _).2 x |>.1 hx
    unfold mkd at hx
    obtain ⟨q, hq, rfl⟩ := List.mem_map.1 hx
    exact hq
  · simp at hx
theorem depsM_asc (w h : Int) (l p : List Int) : (depsM w h l p).Pairwise (fun a b => ltp a b = true) ∧ ∀ x ∈ depsM w h l p, inp x = true := by
  unfold depsM
  split
  · exact ⟨(dsort_ok _).1, fun x hx => mkd_in ((dsort_ok _).2 x |>.1 hx)⟩
  · simp

def shp (l : List S83) (b : Int) : List S83 := l.map fun p => ⟨wrap64 (p.f0 + b), wrap64 (p.f1 + b)⟩
def shift (l : List S83) (b : Int) : List S83 := if (depOk l && inR b (-1000) 1000 && depOk (shp l b)) = true then shp l b else []
theorem shp_len (l : List S83) (b : Int) : (shp l b).length = l.length := by simp [shp]
theorem impl_ShiftDepends_loop (l : List S83) (b : Int) (hn : l.length ≤ 1048576) : ∀ (d i k : Nat) (x : List S83), i + d = l.length → d + 1048600 < k → x = shp (l.take i) b → impl_ShiftDepends.l0 k b x l (l.length : Int) (i : Int) = some (if depOk (shp l b) = true then shp l b else []) := by
  intro d
  induction d with
  | zero =>
    intro i k x hi hk hx
    obtain ⟨k, rfl⟩ : ∃ m, k = m + 1 := ⟨k - 1, by omega⟩
    simp only [impl_ShiftDepends.l0]
    have e : x = shp l b := by rw [hx, List.take_of_length_le (by omega)]
    rw [if_neg (by omega), e, impl_DependsOk_eq _ k (by rw [shp_len]; exact hn) (by omega)]
    simp only [Option.bind_some]
    by_cases q : depOk (shp l b) = true
    · rw [if_pos q, if_pos q]
    · rw [if_neg q, if_neg q]
  | succ d ih =>
    intro i k x hi hk hx
    obtain ⟨k, rfl⟩ : ∃ m, k = m + 1 := ⟨k - 1, by omega⟩
    simp only [impl_ShiftDepends.l0]
    have hxl : x.length = i := by rw [hx, shp_len, List.length_take]; omega
    rw [if_pos (by omega), if_pos (by omega), if_pos (by omega), if_pos (by omega), w64s (by omega)]
    refine ih (i + 1) k _ (by omega) (by omega) ?_
    rw [hx, List.take_succ_eq_append_getElem (by omega), rdp_nat l i (by omega)]
    simp only [shp, List.map_append, List.map_cons, List.map_nil]
theorem impl_ShiftDepends_eq (l : List S83) (b : Int) (k : Nat) (hl : l.length ≤ 1048576) (hk : 2200000 < k) : impl_ShiftDepends.f k l b = some (shift l b) := by
  obtain ⟨k, rfl⟩ : ∃ m, k = m + 1 := ⟨k - 1, by omega⟩
  unfold impl_ShiftDepends.f shift
  rw [impl_DependsOk_eq l (k + 1) hl (by omega), impl_inside_eq]
  simp only [Option.bind_some, impl_ShiftDepends.j0]
  have e := impl_ShiftDepends_loop l b hl l.length 0 k [] (by omega) (by omega) (by simp [shp])
  rw [show ((0 : Nat) : Int) = 0 from rfl] at e
  rw [e]
  by_cases q1 : depOk l = true
  · by_cases q2 : inR b (-1000) 1000 = true
    · rw [if_pos q1, if_neg (by simp [q2]), q1, q2]; rfl
    · simp [q1, q2]
  · simp [q1]
theorem shift_len (l : List S83) (b : Int) : (shift l b).length ≤ l.length := by
  unfold shift
  split
  · rw [shp_len]; omega
  · simp

theorem l08List_loop (b : List Int) : ∀ (d : Nat) (n k : Nat) (L : List S83) (i h : Int), n + d = 10 → 1048600 + d < k → L.length ≤ n → L.Pairwise (fun a b => ltp a b = true) → (∀ x ∈ L, (0 ≤ x.f0 ∧ x.f0 < 6) ∧ 0 ≤ x.f1 ∧ x.f1 < 6) → Cur b i → ∃ r i' h', spec_l08List.l0 k L (n : Int) b i h = some (r, i', h') ∧ r.length ≤ 10 ∧ r.Pairwise (fun a b => ltp a b = true) ∧ ∀ x ∈ r, (0 ≤ x.f0 ∧ x.f0 < 6) ∧ 0 ≤ x.f1 ∧ x.f1 < 6 := by
  intro d
  induction d with
  | zero =>
    intro n k L i h hn hk hL hs hx c
    obtain ⟨k, rfl⟩ : ∃ m, k = m + 1 := ⟨k - 1, by omega⟩
    simp only [spec_l08List.l0]
    obtain ⟨r, i1, h1, e1, c1, r0, r1⟩ := below_ok (h := h) c (show (0 : Int) < 9 by omega)
    rw [e1]
    simp only [Option.bind_some]
    rw [if_neg (by omega)]
    exact ⟨L, _, _, rfl, by omega, hs, hx⟩
  | succ d ih =>
    intro n k L i h hn hk hL hs hx c
    obtain ⟨k, rfl⟩ : ∃ m, k = m + 1 := ⟨k - 1, by omega⟩
    simp only [spec_l08List.l0]
    obtain ⟨r, i1, h1, e1, c1, r0, r1⟩ := below_ok (h := h) c (show (0 : Int) < 9 by omega)
    rw [e1]
    simp only [Option.bind_some]
    by_cases q : (n : Int) < r
    · rw [if_pos q]
      obtain ⟨x, i2, h2, e2, c2, x0, x1⟩ := below_ok (h := h1) c1 (show (0 : Int) < 6 by omega)
      rw [e2]
      simp only [Option.bind_some]
      obtain ⟨y, i3, h3, e3, c3, y0, y1⟩ := below_ok (h := h2) c2 (show (0 : Int) < 6 by omega)
      rw [e3]
      simp only [Option.bind_some]
      obtain ⟨L', e4, p1, p2, p3⟩ := put_ok L x y k (by omega) (by omega) hs
      rw [e4]
      simp only [Option.bind_some]
      rw [w64s (by omega)]
      exact ih (n + 1) k L' _ _ (by omega) (by omega) (by omega) p1 (fun z hz => by
        rcases (p2 z).1 hz with rfl | hz
        · exact ⟨⟨x0, x1⟩, y0, y1⟩
        · exact hx z hz) c3
    · rw [if_neg q]
      exact ⟨L, _, _, rfl, by omega, hs, hx⟩
theorem drawDepends_ok (b : List Int) (k : Nat) (hb : b.length ≤ 1048576) (hk : 1050000 < k) : ∃ r, spec_DrawDepends.f k b = some r ∧ r.length ≤ 10 ∧ r.Pairwise (fun a b => ltp a b = true) ∧ ∀ x ∈ r, (0 ≤ x.f0 ∧ x.f0 < 6) ∧ 0 ≤ x.f1 ∧ x.f1 < 6 := by
  unfold spec_DrawDepends.f spec_l08List.f
  obtain ⟨h0, e0, c0⟩ := new_ok b k hb (by omega)
  rw [e0]
  simp only [Option.bind_some]
  obtain ⟨r, i', h', e1, r1, r2, r3⟩ := l08List_loop b 10 0 k [] 0 h0 (by omega) (by omega) (by simp) (by simp) (by simp) c0
  rw [show ((0 : Nat) : Int) = 0 from rfl] at e1
  rw [e1]
  exact ⟨r, rfl, r1, r2, r3⟩

theorem mrg_comm (a b : List S83) : mrg a b = mrg b a := by
  unfold mrg
  rw [Bool.and_comm]
  split
  · exact asc_ext (dsort_ok _).1 (dsort_ok _).1 fun x => by rw [(dsort_ok _).2, (dsort_ok _).2, List.mem_append, List.mem_append]; exact Or.comm
  · rfl
theorem sub_len {a x : List S83} (ha : a.Pairwise (fun a b => ltp a b = true)) (hx : x.Pairwise (fun a b => ltp a b = true)) (h : ∀ y ∈ a, y ∈ x) : a.length ≤ x.length := by
  have e : x.filter (fun y => decide (y ∈ a)) = a := asc_ext (hx.filter _) ha fun y => by
    rw [List.mem_filter, decide_eq_true_eq]
    exact ⟨fun z => z.2, fun z => ⟨h y z, z⟩⟩
  have := List.length_filter_le (fun y => decide (y ∈ a)) x
  rw [e] at this
  exact this
theorem shp_ok (a : List S83) (c lo hi : Int) (hc : 0 ≤ lo + c) (hc2 : hi + c ≤ 127) (hlo : -1000 ≤ lo ∧ lo ≤ 1000) (hhi : -1000 ≤ hi ∧ hi ≤ 1000) (h1 : a.Pairwise (fun a b => ltp a b = true)) (h2 : ∀ x ∈ a, (lo ≤ x.f0 ∧ x.f0 ≤ hi) ∧ lo ≤ x.f1 ∧ x.f1 ≤ hi) : depOk (shp a c) = true ∧ (∀ x ∈ shp a c, (lo + c ≤ x.f0 ∧ x.f0 ≤ hi + c) ∧ lo + c ≤ x.f1 ∧ x.f1 ≤ hi + c) ∧ (shp a c).Pairwise (fun a b => ltp a b = true) := by
  have m : ∀ x ∈ shp a c, (lo + c ≤ x.f0 ∧ x.f0 ≤ hi + c) ∧ lo + c ≤ x.f1 ∧ x.f1 ≤ hi + c := by
    intro x hx
    unfold shp at hx
    obtain ⟨y, hy, rfl⟩ := List.mem_map.1 hx
    have b := h2 y hy
    simp only
    rw [wrap64_id (x := y.f0 + c) (by omega) (by omega), wrap64_id (x := y.f1 + c) (by omega) (by omega)]
    omega
  have p : (shp a c).Pairwise (fun a b => ltp a b = true) := by
    unfold shp
    rw [List.pairwise_map]
    refine h1.imp_of_mem ?_
    intro x y hx hy hxy
    have b1 := h2 x hx
    have b2 := h2 y hy
    rw [ltp_iff] at hxy ⊢
    simp only
    rw [wrap64_id (x := x.f0 + c) (by omega) (by omega), wrap64_id (x := x.f1 + c) (by omega) (by omega), wrap64_id (x := y.f0 + c) (by omega) (by omega), wrap64_id (x := y.f1 + c) (by omega) (by omega)]
    omega
  refine ⟨(depOk_iff _).2 ⟨p, fun x hx => ?_⟩, m, p⟩
  have b := m x hx
  unfold inp inR
  simp only [Bool.and_eq_true, decide_eq_true_eq]
  omega
theorem shp_back (a : List S83) (h2 : ∀ x ∈ a, (0 ≤ x.f0 ∧ x.f0 ≤ 5) ∧ 0 ≤ x.f1 ∧ x.f1 ≤ 5) : shp (shp a 64) (-64) = a := by
  unfold shp
  rw [List.map_map]
  conv => rhs; rw [← List.map_id a]
  refine List.map_congr_left fun x hx => ?_
  have b := h2 x hx
  simp only [Function.comp, id]
  refine dep_ext ?_ ?_
  · simp only
    rw [wrap64_id (x := x.f0 + 64) (by omega) (by omega), wrap64_id (by omega) (by omega)]; omega
  · simp only
    rw [wrap64_id (x := x.f1 + 64) (by omega) (by omega), wrap64_id (by omega) (by omega)]; omega
theorem merged_l1 (a b x s : List S83) (ha : a.length ≤ 10) (hx : x.length ≤ 5000) (hb : b.length ≤ 4096) (hs : s = shp a 64) (hv : ∀ y ∈ a, (0 ≤ y.f0 ∧ y.f0 ≤ 5) ∧ 0 ≤ y.f1 ∧ y.f1 ≤ 5) (ok : depOk x = true) (l1 : a.length ≤ x.length) (l2 : b.length ≤ x.length) (l3 : x.length ≤ a.length + b.length) : ∀ (d i k : Nat), i + d = a.length → 2000000 + d < k → laws_FnMerged.l1 k a b x s a (i : Int) = some true := by
  have sl : s.length = a.length := by rw [hs, shp_len]
  intro d
  induction d with
  | zero =>
    intro i k hi hk
    obtain ⟨k, rfl⟩ : ∃ m, k = m + 1 := ⟨k - 1, by omega⟩
    simp only [laws_FnMerged.l1]
    rw [if_neg (by omega), impl_DependsOk_eq x k (by omega) (by omega), ok]
    simp only [Option.bind_some]
    rw [if_pos trivial, if_pos (by omega), if_pos (by omega), wrap64_id (by omega) (by omega), decide_eq_true (by omega)]
  | succ d ih =>
    intro i k hi hk
    obtain ⟨k, rfl⟩ : ∃ m, k = m + 1 := ⟨k - 1, by omega⟩
    have hm := hv (rd_T83 a (i : Int)) (by rw [rdp_nat a i (by omega)]; exact List.getElem_mem _)
    have e : (rd_T83 s (i : Int)).f0 = wrap64 ((rd_T83 a (i : Int)).f0 + 64) := by
      subst hs
      rw [rdp_nat _ i (by omega), rdp_nat a i (by omega)]
      simp [shp]
    simp only [laws_FnMerged.l1]
    rw [if_pos (by omega), if_pos (by omega), if_pos (by omega), if_neg (by simp), if_pos (by omega), if_pos e, w64s (by omega)]
    exact ih (i + 1) k (by omega) (by omega)
theorem merged_l0 (a b x s : List S83) (hx : x.length ≤ 5000) (h1 : ∀ k, 3000000 < k → laws_FnMerged.l1 k a b x s a ((0 : Nat) : Int) = some true) : ∀ (d i k : Nat), i + d = x.length → 3000001 + d < k → laws_FnMerged.l0 k a b x x s a (i : Int) = some true := by
  intro d
  induction d with
  | zero =>
    intro i k hi hk
    obtain ⟨k, rfl⟩ : ∃ m, k = m + 1 := ⟨k - 1, by omega⟩
    simp only [laws_FnMerged.l0]
    rw [if_neg (by omega)]
    exact h1 k (by omega)
  | succ d ih =>
    intro i k hi hk
    obtain ⟨k, rfl⟩ : ∃ m, k = m + 1 := ⟨k - 1, by omega⟩
    simp only [laws_FnMerged.l0]
    rw [if_pos (by omega), if_pos (by omega), if_pos (by omega), if_neg (by simp), w64s (by omega)]
    exact ih (i + 1) k (by omega) (by omega)
theorem FnMerged : laws_FnMerged.Pure := by
  intro l hm _ _
  obtain ⟨k, hk⟩ : ∃ k : Nat, 4000000 ≤ k := ⟨_, Nat.le_refl _⟩
  refine ⟨k + 1, ?_⟩
  unfold laws_FnMerged.f
  rw [big_eq]
  simp only [Option.bind_some]
  by_cases hb : 1048576 < l.length
  · rw [if_pos (by simpa using hb)]
  · rw [if_neg (by simpa using hb)]
    obtain ⟨a, e0, al, aa, av⟩ := drawDepends_ok l (k + 1) (by omega) (by omega)
    obtain ⟨w, h, r, e1, mw, mh, mr⟩ := drawTable_ok l (k + 1) (by omega) (by omega)
    have av : ∀ x ∈ a, (0 ≤ x.f0 ∧ x.f0 ≤ 5) ∧ 0 ≤ x.f1 ∧ x.f1 ≤ 5 := fun x hx => by have := av x hx; omega
    rw [e0]
    simp only [Option.bind_some]
    rw [e1]
    simp only [Option.bind_some]
    rw [impl_DependsOf_eq w h [] (stdT w h r) (k + 1) (by simp) (by omega)]
    simp only [Option.bind_some]
    have bl := depsM_len w h [] (stdT w h r)
    have ba := depsM_asc w h [] (stdT w h r)
    generalize depsM w h [] (stdT w h r) = b at bl ba ⊢
    have oka : depOk a = true := (depOk_iff a).2 ⟨aa, fun x hx => by have := av x hx; unfold inp inR; simp only [Bool.and_eq_true, decide_eq_true_eq]; omega⟩
    have okb : depOk b = true := (depOk_iff b).2 ba
    obtain ⟨s1, s2, s3⟩ := shp_ok a 64 0 5 (by omega) (by omega) (by omega) (by omega) aa av
    have es : shift a 64 = shp a 64 := by unfold shift; rw [if_pos (by rw [oka, s1]; decide)]
    have eb := shp_back a av
    have eu : shift (shp a 64) (-64) = a := by unfold shift; rw [eb, if_pos (by rw [s1, oka]; decide)]
    have sl := shp_len a 64
    have ml := mrg_len a b
    have em : mrg a b = dsort (a ++ b) := by unfold mrg; rw [oka, okb]; rfl
    have dm := dsort_ok (a ++ b)
    rw [impl_MergeDepends_eq a b (k + 1) (by omega) (by omega) (by omega), impl_MergeDepends_eq b a (k + 1) (by omega) (by omega) (by omega), mrg_comm b a]
    simp only [Option.bind_some]
    rw [impl_ShiftDepends_eq a 64 (k + 1) (by omega) (by omega), es]
    simp only [Option.bind_some]
    rw [impl_ShiftDepends_eq (shp a 64) (-64) (k + 1) (by omega) (by omega), eu]
    simp only [Option.bind_some]
    rw [if_pos trivial, if_pos trivial]
    simp only [laws_FnMerged.j0]
    rw [if_neg (by rw [sl]; simp)]
    have hl1 : ∀ k, 3000000 < k → laws_FnMerged.l1 k a b (mrg a b) (shp a 64) a ((0 : Nat) : Int) = some true := fun k hk => merged_l1 a b (mrg a b) (shp a 64) al (by omega) bl rfl av ((depOk_iff _).2 ⟨by rw [em]; exact dm.1, fun x hx => by
        rw [em] at hx
        rcases List.mem_append.1 ((dm.2 x).1 hx) with hx | hx
        · exact ((depOk_iff a).1 oka).2 x hx
        · exact ba.2 x hx⟩) (sub_len aa (by rw [em]; exact dm.1) (fun y hy => by rw [em, dm.2]; exact List.mem_append_left _ hy)) (sub_len ba.1 (by rw [em]; exact dm.1) (fun y hy => by rw [em, dm.2]; exact List.mem_append_right _ hy)) (by omega) a.length 0 k (by omega) (by omega)
    have e := merged_l0 a b (mrg a b) (shp a 64) (by omega) hl1 (mrg a b).length 0 k (by omega) (by omega)
    rw [show ((0 : Nat) : Int) = 0 from rfl] at e
    exact e

end Go.Proofs.Ytmfkgnfjjfnfmaa.Pure
