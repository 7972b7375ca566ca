/- What is proved: the statement FnTableWalks, in its pure form, over numbers and lists: a table's walks between all nodes are loop-free routes from the one to the other, not shorter than the distance, for every draw (no conditions). -/
import Derived.Test.YtiehmmannfambaaX17
import Derived.Test.YtiehmmannfambaaModel
set_option linter.unusedVariables false
set_option linter.unusedSimpArgs false
namespace Go.Proofs.Ytiehmmannfambaa.Pure
open Go.RowKit Go.Proofs.Ytiehmmannfambaa.X Go.Proofs.Ytiehmmannfambaa.M Go.Proofs.YtiehmmannfambaaW.PrintWords Go.Proofs.YtiehmmannfambaaW.PrintLast
theorem rd_nat (l : List Int) (i : Nat) (h : i < l.length) : rd l (i : Int) = l[i] := by unfold rd; simp [h]
theorem drop_rd (l : List Int) (i : Nat) (h : i < l.length) : l.drop i = rd l (i : Int) :: l.drop (i + 1) := by
  rw [rd_nat l i h]; exact List.drop_eq_getElem_cons h
theorem w64s {i : Nat} (h : i ≤ 9223372036854775806) : wrap64 ((i : Int) + 1) = ((i + 1 : Nat) : Int) := by rw [wrap64_id (by omega) (by omega)]; omega
theorem w64p {i : Nat} (h : i ≤ 9223372036854775806) (h0 : 0 < i) : wrap64 ((i : Int) - 1) = ((i - 1 : Nat) : Int) := by rw [wrap64_id (by omega) (by omega)]; omega

theorem impl_inside_eq (a b c : Int) : impl_inside.f a b c = some (inR a b c) := by
  unfold impl_inside.f inR
  by_cases h : b ≤ a <;> simp [h]

theorem impl_GridOk_eq (w h : Int) : impl_GridOk.f w h = some (gok w h) := by
  unfold impl_GridOk.f gok
  simp only [impl_inside_eq, Option.bind_some]
  cases inR w 1 4 <;> rfl

theorem impl_NodeCount_eq (w h : Int) : impl_NodeCount.f w h = some (cnt w h) := by
  unfold impl_NodeCount.f
  simp only [impl_GridOk_eq, Option.bind_some]
  by_cases g : gok w h = true
  · have b := cnt_bd w h
    rw [if_pos g, cnt_ok g]
    rw [cnt_ok g] at b
    rw [wrap64_id (by omega) (by omega)]
  · rw [if_neg g, cnt_no (by simpa using g)]

theorem impl_isNode_eq (w h n : Int) : impl_isNode.f w h n = some (nd w h n) := by
  have b := cnt_bd w h
  unfold impl_isNode.f nd
  simp only [impl_NodeCount_eq, impl_inside_eq, Option.bind_some]
  rw [wrap64_id (by omega) (by omega)]

theorem impl_NodeAt_eq (w h x y : Int) : impl_NodeAt.f w h x y = some (natx w h x y) := by
  unfold impl_NodeAt.f natx
  simp only [impl_GridOk_eq, impl_inside_eq, Option.bind_some]
  by_cases g : gok w h = true
  · have b := gok_iff.1 g
    rw [if_pos g, wrap64_id (x := w - 1) (by omega) (by omega), wrap64_id (x := h - 1) (by omega) (by omega)]
    by_cases hx : inR x 0 (w - 1) = true
    · rw [if_pos hx]
      by_cases hy : inR y 0 (h - 1) = true
      · rw [if_pos hy, if_pos (by simp [g, hx, hy])]
        rw [inR_iff] at hx hy
        have e : wrap64 (y * w) = y * w := by rcases w4 g with rfl | rfl | rfl | rfl <;> exact wrap64_id (by omega) (by omega)
        have e2 : wrap64 (y * w + x) = y * w + x := by rcases w4 g with rfl | rfl | rfl | rfl <;> exact wrap64_id (by omega) (by omega)
        rw [e, e2]
      · rw [if_neg hy, if_neg (by simp [hy])]
    · rw [if_neg hx, if_neg (by simp [hx])]
  · rw [if_neg g, if_neg (by simp [g])]

theorem impl_gap_eq {a b : Int} (h : -100 ≤ a ∧ a ≤ 100) (h2 : -100 ≤ b ∧ b ≤ 100) : impl_gap.f a b = some (absd a b) := by
  unfold impl_gap.f absd mx
  rw [wrap64_id (x := a - b) (by omega) (by omega), wrap64_id (by omega) (by omega)]
  by_cases c : a ≤ b
  · rw [if_pos c]; split <;> (congr 1 <;> omega)
  · rw [if_neg c]; split <;> (congr 1 <;> omega)

theorem impl_Distance_eq (w h a b : Int) (k : Nat) (hk : 1 ≤ k) : impl_Distance.f k w h a b = some (dist w h a b) := by
  obtain ⟨k, rfl⟩ : ∃ m, k = m + 1 := ⟨k - 1, by omega⟩
  unfold impl_Distance.f dist
  simp only [impl_isNode_eq, Option.bind_some, impl_Distance.j0]
  by_cases d : nd w h a = true
  · rw [if_pos d]
    by_cases e : nd w h b = true
    · have b1 := nd_bd d
      have b2 := nd_bd e
      rw [if_neg (show ¬ ((!nd w h b) = true) by simp [e]), if_pos (show (nd w h a && nd w h b) = true by simp [d, e]), if_neg (show ¬ w = 0 by omega), tmod_of (by omega), tmod_of (by omega), tdiv_of (by omega), tdiv_of (by omega), wrap64_id (x := a / w) (by omega) (by omega), wrap64_id (x := b / w) (by omega) (by omega)]
      rw [impl_gap_eq (by omega) (by omega), impl_gap_eq (by omega) (by omega)]
      simp only [Option.bind_some]
      rw [wrap64_id (by unfold absd; split <;> split <;> omega) (by unfold absd; split <;> split <;> omega)]
    · rw [if_pos (show (!nd w h b) = true by simp [e]), if_neg (show ¬ (nd w h a && nd w h b) = true by simp [e])]
  · rw [if_neg d, if_pos trivial, if_neg (show ¬ (nd w h a && nd w h b) = true by simp [d])]

theorem impl_NextNode_eq (w h n p : Int) : impl_NextNode.f w h n p = some (nxt w h n p) := by
  unfold impl_NextNode.f nxt
  simp only [impl_isNode_eq, Option.bind_some]
  by_cases d : nd w h n = true
  · have b := nd_bd d
    rw [if_pos d, if_pos d, if_neg (by omega)]
    simp only [impl_NodeAt_eq, Option.bind_some, tmod_of (show 0 ≤ n by omega), tdiv_of (show 0 ≤ n by omega)]
    rw [wrap64_id (x := n / w) (by omega) (by omega), wrap64_id (x := n / w - 1) (by omega) (by omega), wrap64_id (x := n / w + 1) (by omega) (by omega), wrap64_id (x := n % w + 1) (by omega) (by omega), wrap64_id (x := n % w - 1) (by omega) (by omega)]
    repeat' split
    all_goals rfl
  · rw [if_neg d, if_neg d]

theorem impl_leads_eq (w h c : Int) : impl_leads.f w h c = some (leads w h c) := by
  have b := cnt_bd w h
  unfold impl_leads.f leads
  simp only [impl_NodeCount_eq, impl_inside_eq, Option.bind_some, impl_NextNode_eq]
  rw [wrap64_id (x := 4 * cnt w h) (by omega) (by omega), wrap64_id (by omega) (by omega)]
  by_cases r : inR c 0 (4 * cnt w h - 1) = true
  · have b := inR_iff.1 r
    rw [if_pos r, tdiv_of (by omega), wrap64_id (by omega) (by omega), tmod_of (by omega), r]
    rfl
  · rw [if_neg r]
    simp [r]

theorem spec_l01In_eq (a b c : Int) : spec_l01In.f a b c = some (inR a b c) := by
  unfold spec_l01In.f inR
  by_cases h : b ≤ a <;> simp [h]

theorem spec_GridOk_eq (w h : Int) : spec_GridOk.f w h = some (gok w h) := by
  unfold spec_GridOk.f gok
  simp only [spec_l01In_eq, Option.bind_some]
  cases inR w 1 4 <;> rfl

theorem spec_NodeCount_eq (w h : Int) : spec_NodeCount.f w h = some (cnt w h) := by
  unfold spec_NodeCount.f
  simp only [spec_GridOk_eq, Option.bind_some]
  by_cases g : gok w h = true
  · have b := cnt_bd w h
    rw [if_pos g, cnt_ok g]
    rw [cnt_ok g] at b
    rw [wrap64_id (by omega) (by omega)]
  · rw [if_neg g, cnt_no (by simpa using g)]

theorem impl_MeshOk_loop (w h : Int) (l : List Int) (hn : l.length ≤ 9223372036854775806) : ∀ (d i k : Nat), i + d = l.length → d < k → impl_MeshOk.l0 k l (l.length : Int) (i : Int) w h l = some (brOk w h (if i = 0 then none else some (rd l ((i - 1 : Nat) : Int))) (l.drop i) && gok w h) := by
  intro d
  induction d with
  | zero =>
    intro i k hi hk
    obtain ⟨k, rfl⟩ : ∃ m, k = m + 1 := ⟨k - 1, by omega⟩
    simp only [impl_MeshOk.l0]
    rw [if_neg (by omega), impl_GridOk_eq, List.drop_eq_nil_of_le (by omega)]
    simp [brOk]
  | succ d ih =>
    intro i k hi hk
    obtain ⟨k, rfl⟩ : ∃ m, k = m + 1 := ⟨k - 1, by omega⟩
    simp only [impl_MeshOk.l0]
    rw [if_pos (by omega), if_pos (by omega), if_pos (by omega), impl_leads_eq, drop_rd l i (by omega)]
    simp only [Option.bind_some]
    by_cases c : leads w h (rd l (i : Int)) = true
    · rw [if_pos c]
      have e := ih (i + 1) k (by omega) (by omega)
      rw [if_neg (by omega), show i + 1 - 1 = i from by omega] at e
      by_cases z : i = 0
      · subst z
        rw [if_neg (by simp), w64s (by omega), e, if_pos rfl]
        simp only [brOk, c, Bool.true_and]
      · rw [if_pos (by omega), w64p (by omega) (by omega), if_pos (by omega), if_pos (by omega), if_neg z]
        by_cases q : rd l ((i - 1 : Nat) : Int) ≥ rd l (i : Int)
        · rw [if_pos q]
          simp only [brOk]
          rw [show decide (rd l ((i - 1 : Nat) : Int) < rd l (i : Int)) = false from decide_eq_false (by omega)]
          simp
        · rw [if_neg q, w64s (by omega), e]
          simp only [brOk]
          rw [show decide (rd l ((i - 1 : Nat) : Int) < rd l (i : Int)) = true from decide_eq_true (by omega), c]
          simp
    · rw [if_neg c]
      have c' : leads w h (rd l (i : Int)) = false := by simpa using c
      by_cases z : i = 0
      · rw [if_pos z]; simp only [brOk, c', Bool.false_and]
      · rw [if_neg z]; simp only [brOk, c', Bool.false_and]
theorem impl_MeshOk_eq (w h : Int) (l : List Int) (k : Nat) (hl : l.length ≤ 1048576) (hk : 1048577 < k) : impl_MeshOk.f k w h l = some (meshOk w h l) := by
  unfold impl_MeshOk.f
  have e := impl_MeshOk_loop w h l (by omega) l.length 0 k (by omega) (by omega)
  rw [show ((0 : Nat) : Int) = 0 from rfl] at e
  rw [e]
  simp [meshOk, Bool.and_comm]

theorem slicesIndex_loop (l : List Int) (c : Int) (hn : l.length ≤ 9223372036854775806) : ∀ (d i k : Nat), i + d = l.length → d < k → ∃ r, slices_Index_int_int.l0 k l c (l.length : Int) (i : Int) = some r ∧ (0 ≤ r ↔ c ∈ l.drop i) := by
  intro d
  induction d with
  | zero =>
    intro i k hi hk
    obtain ⟨k, rfl⟩ : ∃ m, k = m + 1 := ⟨k - 1, by omega⟩
    simp only [slices_Index_int_int.l0]
    rw [if_neg (by omega), List.drop_eq_nil_of_le (by omega)]
    exact ⟨-1, rfl, by simp⟩
  | succ d ih =>
    intro i k hi hk
    obtain ⟨k, rfl⟩ : ∃ m, k = m + 1 := ⟨k - 1, by omega⟩
    simp only [slices_Index_int_int.l0]
    rw [if_pos (by omega), if_pos (by omega), if_pos (by omega), drop_rd l i (by omega)]
    by_cases q : c = rd l (i : Int)
    · rw [if_pos q]; exact ⟨_, rfl, by simp [q]⟩
    · rw [if_neg q, w64s (by omega)]
      obtain ⟨r, h1, h2⟩ := ih (i + 1) k (by omega) (by omega)
      exact ⟨r, h1, by simp [q, h2]⟩
theorem slicesContains_eq (l : List Int) (c : Int) (k : Nat) (hl : l.length ≤ 1048576) (hk : 1048577 < k) : slices_Contains_int_int.f k l c = some (decide (c ∈ l)) := by
  unfold slices_Contains_int_int.f slices_Index_int_int.f
  obtain ⟨r, h1, h2⟩ := slicesIndex_loop l c (by omega) l.length 0 k (by omega) (by omega)
  rw [show ((0 : Nat) : Int) = 0 from rfl] at h1
  rw [h1]
  simp only [Option.bind_some]
  congr 1
  simpa using h2

theorem impl_HasChannel_eq (w h : Int) (l : List Int) (c : Int) (k : Nat) (hl : l.length ≤ 1048576) (hk : 1048577 < k) : impl_HasChannel.f k w h l c = some (hasC w h l c) := by
  unfold impl_HasChannel.f
  rw [impl_MeshOk_eq w h l k hl hk, impl_leads_eq, slicesContains_eq l c k hl hk]
  simp only [Option.bind_some]
  by_cases q : meshOk w h l = true
  · by_cases q2 : leads w h c = true <;> simp [q, q2, hasC]
  · simp [q, hasC]

theorem spec_l05Port_eq (w h r n t : Int) (k : Nat) (hk : 3 ≤ k) (d : nd w h n = true) (e : nd w h t = true) (hr : inR r 1 4 = true) : spec_l05Port.f k w h r n t = some (stdP w r n t) := by
  obtain ⟨k, rfl⟩ : ∃ m, k = m + 1 + 1 := ⟨k - 2, by omega⟩
  have b1 := nd_bd d
  have b2 := nd_bd e
  have ap := apart d e
  rw [inR_iff] at hr
  unfold spec_l05Port.f stdP
  rw [if_neg (show ¬ w = 0 by omega), tmod_of (show 0 ≤ n by omega), tmod_of (show 0 ≤ t by omega), tmod_of (show 0 ≤ t by omega), tdiv_of (show 0 ≤ n by omega), tdiv_of (show 0 ≤ t by omega), wrap64_id (x := n / w) (by omega) (by omega), wrap64_id (x := t / w) (by omega) (by omega), wrap64_id (x := 1 + t % 2) (by omega) (by omega)]
  have key : ∀ r x y u v : Int, 1 ≤ r → r ≤ 3 → spec_l05Port.j0 (k + 1 + 1) r x y u v = some (stdQ r x y u v) := by
    intro r x y u v h1 h2
    simp only [spec_l05Port.j0, spec_l05Port.j1, spec_l05Column.f, spec_l05Row.f, stdQ]
    have c3 : r = 1 ∨ r = 2 ∨ r = 3 := by omega
    by_cases a1 : u < x <;> by_cases a2 : v < y <;> by_cases a3 : y = v <;> by_cases a4 : x = u <;> rcases c3 with rfl | rfl | rfl <;> simp [a1, a2, a3, a4]
  by_cases c : n = t
  · rw [if_pos c, if_pos c]
  · rw [if_neg c, if_neg c]
    by_cases q : r = 4
    · rw [if_pos q, if_pos q]; exact key _ _ _ _ _ (by omega) (by omega)
    · rw [if_neg q, if_neg q]; exact key _ _ _ _ _ (by omega) (by omega)

theorem i64_and255 (n : Int) : bits .and .i64 n 255 = n % 256 := by
  have h : (BitVec.ofInt 64 255).toNat = 2 ^ 8 - 1 := by decide
  have key : (BitVec.ofInt 64 n &&& BitVec.ofInt 64 255).toNat = (n % ((2 ^ 64 : Nat) : Int)).toNat % 2 ^ 8 := by
    rw [BitVec.toNat_and, BitVec.toNat_ofInt, h, Nat.and_two_pow_sub_one_eq_mod]
  show IntKind.i64.wrap ((BitVec.ofInt 64 n &&& BitVec.ofInt 64 255).toNat : Nat) = n % 256
  rw [key, IntKind.wrap_i64]
  omega
/-- the cursor: a place in the bytes -/
def Cur (b : List Int) (i : Int) : Prop := b.length ≤ 1048576 ∧ 0 ≤ i ∧ i ≤ b.length
theorem byte_ok {b : List Int} {i h : Int} (c : Cur b i) : ∃ r i' h', spec_l01Byte.f b i h = some (r, i', h') ∧ Cur b i' ∧ 0 ≤ r ∧ r ≤ 255 := by
  obtain ⟨c0, c1, c2⟩ := c
  unfold spec_l01Byte.f
  by_cases q : i < (b.length : Int)
  · rw [if_pos q, if_pos c1]
    refine ⟨_, _, _, rfl, ⟨c0, ?_, ?_⟩, ?_, ?_⟩
    · rw [wrap64_id (by omega) (by omega)]; omega
    · rw [wrap64_id (by omega) (by omega)]; omega
    · rw [i64_and255]; omega
    · rw [i64_and255]; omega
  · rw [if_neg q]
    refine ⟨_, _, _, rfl, ⟨c0, c1, c2⟩, ?_, ?_⟩
    · rw [i64_and255]; omega
    · rw [i64_and255]; omega

theorem below_ok {b : List Int} {i h n : Int} (c : Cur b i) (hn : 0 < n) : ∃ r i' h', spec_l01Below.f b i h n = some (r, i', h') ∧ Cur b i' ∧ 0 ≤ r ∧ r < n := by
  unfold spec_l01Below.f
  rw [if_neg (show ¬ n ≤ 0 by omega)]
  by_cases q : n ≤ 256
  · rw [if_pos q]
    obtain ⟨r, i', h', e, c', r0, r1⟩ := byte_ok (h := h) c
    rw [e]
    simp only [Option.bind_some]
    rw [if_neg (show ¬ n = 0 by omega), tmod_of r0]
    exact ⟨_, _, _, rfl, c', Int.emod_nonneg _ (by omega), Int.emod_lt_of_pos _ hn⟩
  · rw [if_neg q]
    obtain ⟨r1, i1, h1, e1, c1, a1, b1⟩ := byte_ok (h := h) c
    rw [e1]
    simp only [Option.bind_some]
    obtain ⟨r2, i2, h2, e2, c2, a2, b2⟩ := byte_ok (h := h1) c1
    rw [e2]
    simp only [Option.bind_some]
    obtain ⟨r3, i3, h3, e3, c3, a3, b3⟩ := byte_ok (h := h2) c2
    rw [e3]
    simp only [Option.bind_some]
    obtain ⟨r4, i4, h4, e4, c4, a4, b4⟩ := byte_ok (h := h3) c3
    rw [e4]
    simp only [Option.bind_some]
    rw [if_neg (show ¬ n = 0 by omega), wrap64_id (x := r1 * 16777216) (by omega) (by omega), wrap64_id (x := r2 * 65536) (by omega) (by omega), wrap64_id (x := r3 * 256) (by omega) (by omega), wrap64_id (x := r1 * 16777216 + r2 * 65536) (by omega) (by omega), wrap64_id (x := r1 * 16777216 + r2 * 65536 + r3 * 256) (by omega) (by omega), wrap64_id (by omega) (by omega), tmod_of (by omega)]
    exact ⟨_, _, _, rfl, c4, Int.emod_nonneg _ (by omega), Int.emod_lt_of_pos _ hn⟩
theorem below0_ok {b : List Int} {i h n : Int} (c : Cur b i) (hn : n ≤ 0) : spec_l01Below.f b i h n = some (0, i, h) := by
  unfold spec_l01Below.f
  rw [if_pos hn]

theorem pick_ok {b : List Int} {i h : Int} {l : List Int} (c : Cur b i) (hl : 0 < l.length) : ∃ r i' h', spec_l01PickInt.f b i h l = some (r, i', h') ∧ Cur b i' ∧ r ∈ l := by
  unfold spec_l01PickInt.f
  obtain ⟨r, i', h', e, c', r0, r1⟩ := below_ok (h := h) c (show 0 < (l.length : Int) by omega)
  rw [e]
  simp only [Option.bind_some]
  rw [if_pos r0, if_pos r1]
  refine ⟨_, _, _, rfl, c', ?_⟩
  obtain ⟨n, rfl⟩ := Int.eq_ofNat_of_zero_le r0
  rw [rd_nat l n (by omega)]
  exact List.getElem_mem _

theorem new_loop (b : List Int) : ∀ (d i k : Nat) (h : Int), i + d = 4000 → d < k → ∃ h', spec_l01New.l0 k b h (i : Int) = some (b, 0, h') := by
  intro d
  induction d with
  | zero =>
    intro i k h hi hk
    obtain ⟨k, rfl⟩ : ∃ m, k = m + 1 := ⟨k - 1, by omega⟩
    simp only [spec_l01New.l0]
    by_cases q : (i : Int) < (b.length : Int)
    · rw [if_pos q, if_neg (by omega)]; exact ⟨_, rfl⟩
    · rw [if_neg q]; exact ⟨_, rfl⟩
  | succ d ih =>
    intro i k h hi hk
    obtain ⟨k, rfl⟩ : ∃ m, k = m + 1 := ⟨k - 1, by omega⟩
    simp only [spec_l01New.l0]
    by_cases q : (i : Int) < (b.length : Int)
    · rw [if_pos q, if_pos (by omega), if_pos (by omega), w64s (by omega)]
      exact ih (i + 1) k _ (by omega) (by omega)
    · rw [if_neg q]; exact ⟨_, rfl⟩
theorem new_ok (b : List Int) (k : Nat) (hb : b.length ≤ 1048576) (hk : 4000 < k) : ∃ h, spec_l01New.f k b = some (b, 0, h) ∧ Cur b 0 := by
  unfold spec_l01New.f
  obtain ⟨h, e⟩ := new_loop b 4000 0 k (wrap64 (98459 + (b.length : Int))) (by omega) (by omega)
  exact ⟨h, e, hb, by omega, by omega⟩

theorem big_eq (l : List Int) : laws_big.f l = some (decide (1048576 < l.length)) := by
  unfold laws_big.f
  congr 1
  simp
  omega

def prt (w h : Int) (l p : List Int) (n t : Int) : Int := if (meshOk w h l && (nd w h n && (nd w h t && (decide ((p.length : Int) = cnt w h * cnt w h) && inR (rd p (n * cnt w h + t)) 0 4)))) = true then rd p (n * cnt w h + t) else -1
theorem prt_bd {w h n t : Int} (d : nd w h n = true) (e : nd w h t = true) : 0 ≤ n * cnt w h + t ∧ n * cnt w h + t < cnt w h * cnt w h ∧ n * cnt w h ≤ 256 := by
  have b1 := nd_iff.1 d
  have b2 := nd_iff.1 e
  have b3 := cnt_bd w h
  have h1 : 0 ≤ n * cnt w h := Int.mul_nonneg b1.1 (by omega)
  have h2 : n * cnt w h ≤ (cnt w h - 1) * cnt w h := Int.mul_le_mul_of_nonneg_right (by omega) (by omega)
  have h3 : (cnt w h - 1) * cnt w h = cnt w h * cnt w h - cnt w h := by rw [Int.sub_mul, Int.one_mul]
  have h4 : cnt w h * cnt w h ≤ 16 * cnt w h := Int.mul_le_mul_of_nonneg_right (by omega) (by omega)
  omega

theorem impl_PortAt_eq (w h : Int) (l p : List Int) (n t : Int) (k : Nat) (hl : l.length ≤ 1048576) (hk : 1048577 < k) : impl_PortAt.f k w h l p n t = some (prt w h l p n t) := by
  have b := cnt_bd w h
  unfold impl_PortAt.f prt
  have e1 : wrap64 (cnt w h - 1) = cnt w h - 1 := wrap64_id (by omega) (by omega)
  have hc : cnt w h * cnt w h ≤ 16 * cnt w h := Int.mul_le_mul_of_nonneg_right (by omega) (by omega)
  have hc0 : 0 ≤ cnt w h * cnt w h := Int.mul_nonneg (by omega) (by omega)
  have e2 : wrap64 (cnt w h * cnt w h) = cnt w h * cnt w h := wrap64_id (by omega) (by omega)
  simp only [impl_NodeCount_eq, impl_MeshOk_eq w h l k hl hk, impl_inside_eq, Option.bind_some, e1, e2]
  have f1 : ∀ x, inR x 0 (cnt w h - 1) = nd w h x := fun _ => rfl
  simp only [f1]
  by_cases m : meshOk w h l = true
  · rw [if_pos m]
    by_cases d : nd w h n = true
    · rw [if_pos d]
      by_cases e : nd w h t = true
      · rw [if_pos e]
        have q := prt_bd d e
        rw [wrap64_id (x := n * cnt w h) (by have := Int.mul_nonneg (nd_iff.1 d).1 b.1; omega) (by omega), wrap64_id (x := n * cnt w h + t) (by omega) (by omega)]
        by_cases s : (p.length : Int) = cnt w h * cnt w h
        · rw [if_pos s, if_pos q.1, if_pos (by omega)]
          by_cases r : inR (rd p (n * cnt w h + t)) 0 4 = true
          · rw [if_pos r]; simp [m, d, e, s, r]
          · rw [if_neg r]; simp [r]
        · rw [if_neg s]; simp [s]
      · rw [if_neg e]; simp [e]
    · rw [if_neg d]; simp [d]
  · rw [if_neg m]; simp [m]

theorem grid_ok {b : List Int} {i h : Int} (c : Cur b i) : ∃ w' h' i' g, spec_l02Grid.f b i h = some (w', h', i', g) ∧ Cur b i' ∧ w' ∈ [(1 : Int), 2, 3, 4] ∧ h' ∈ [(1 : Int), 2, 3, 4] := by
  unfold spec_l02Grid.f
  obtain ⟨r1, i1, h1, e1, c1, m1⟩ := pick_ok (h := h) (l := [1, 2, 2, 3, 3, 4]) c (by simp)
  rw [e1]
  simp only [Option.bind_some]
  obtain ⟨r2, i2, h2, e2, c2, m2⟩ := pick_ok (h := h1) (l := [1, 2, 2, 3, 3, 4]) c1 (by simp)
  rw [e2]
  refine ⟨_, _, _, _, rfl, c2, ?_, ?_⟩
  · simp at m1 ⊢; omega
  · simp at m2 ⊢; omega

theorem places_loop (b : List Int) : ∀ (d n k : Nat) (x : List Int) (i h : Int), n + d = 12 → d < k → x.length = n → (∀ y ∈ x, 0 ≤ y ∧ y < 10000) → Cur b i → ∃ p, spec_DrawPlaces.l0 k x (n : Int) b i h = some p ∧ p.length = 12 ∧ ∀ y ∈ p, 0 ≤ y ∧ y < 10000 := by
  intro d
  induction d with
  | zero =>
    intro n k x i h hn hk hx hy _
    obtain ⟨k, rfl⟩ : ∃ m, k = m + 1 := ⟨k - 1, by omega⟩
    simp only [spec_DrawPlaces.l0]
    rw [if_neg (by omega)]
    exact ⟨x, rfl, by omega, hy⟩
  | succ d ih =>
    intro n k x i h hn hk hx hy c
    obtain ⟨k, rfl⟩ : ∃ m, k = m + 1 := ⟨k - 1, by omega⟩
    simp only [spec_DrawPlaces.l0]
    obtain ⟨r, i', h', e, c', r0, r1⟩ := below_ok (h := h) c (show (0 : Int) < 10000 by omega)
    rw [if_pos (by omega), e]
    simp only [Option.bind_some]
    rw [if_pos (by omega), w64s (by omega)]
    refine ih (n + 1) k _ _ _ (by omega) (by omega) (by simp [hx]) ?_ c'
    intro y m
    rcases List.mem_append.1 m with m | m
    · exact hy y m
    · simp at m; subst m; exact ⟨r0, r1⟩
theorem places_ok (b : List Int) (k : Nat) (hb : b.length ≤ 1048576) (hk : 4000 < k) : ∃ p, spec_DrawPlaces.f k b = some p ∧ p.length = 12 ∧ ∀ y ∈ p, 0 ≤ y ∧ y < 10000 := by
  unfold spec_DrawPlaces.f
  obtain ⟨h0, e0, c0⟩ := new_ok b k hb hk
  rw [e0]
  simp only [Option.bind_some]
  exact places_loop b 12 0 k [] 0 h0 (by omega) (by omega) rfl (by simp) c0
theorem rd_places {p : List Int} (hp : p.length = 12) (hy : ∀ y ∈ p, 0 ≤ y ∧ y < 10000) (i : Nat) (hi : i < 12) : 0 ≤ rd p (i : Int) ∧ rd p (i : Int) < 10000 := by
  rw [rd_nat p i (by omega)]
  exact hy _ (List.getElem_mem _)

def stdG (w h r : Int) (i : Nat) : Int := stdP w r ((i / (cnt w h).toNat : Nat) : Int) ((i % (cnt w h).toNat : Nat) : Int)
def stdT (w h r : Int) : List Int := (List.range ((cnt w h).toNat * (cnt w h).toNat)).map (stdG w h r)
theorem stdT_len (w h r : Int) : (stdT w h r).length = (cnt w h).toNat * (cnt w h).toNat := by simp [stdT]
theorem cnt_sq (w h : Int) : (cnt w h).toNat * (cnt w h).toNat ≤ 256 ∧ (((cnt w h).toNat * (cnt w h).toNat : Nat) : Int) = cnt w h * cnt w h := by
  have b := cnt_bd w h
  obtain ⟨n, hn⟩ : ∃ n : Nat, cnt w h = n := ⟨(cnt w h).toNat, by omega⟩
  rw [hn] at b ⊢
  simp only [Int.toNat_natCast]
  refine ⟨?_, by simp⟩
  have : n ≤ 16 := by omega
  exact Nat.mul_le_mul this this
theorem l05Make_loop (w h r : Int) (g : gok w h = true) (hr : inR r 1 4 = true) : ∀ (d i k : Nat) (x : List Int), i + d = (cnt w h).toNat * (cnt w h).toNat → d + 5 < k → x = (List.range i).map (stdG w h r) → spec_l05Make.l0 k r (cnt w h) (i : Int) w h x = some (stdT w h r) := by
  have b := cnt_bd w h
  have bp := cnt_pos g
  have sq := cnt_sq w h
  intro d
  induction d with
  | zero =>
    intro i k x hi hk hx
    obtain ⟨k, rfl⟩ : ∃ m, k = m + 1 := ⟨k - 1, by omega⟩
    simp only [spec_l05Make.l0]
    rw [wrap64_id (x := cnt w h * cnt w h) (by omega) (by omega), if_neg (by omega), hx]
    unfold stdT
    congr 3
  | succ d ih =>
    intro i k x hi hk hx
    obtain ⟨k, rfl⟩ : ∃ m, k = m + 1 := ⟨k - 1, by omega⟩
    simp only [spec_l05Make.l0]
    obtain ⟨n, hn⟩ : ∃ n : Nat, cnt w h = n := ⟨(cnt w h).toNat, by omega⟩
    have hlt : i < n * n := by rw [hn] at hi; simp at hi; omega
    have h1 : i / n < n := Nat.div_lt_of_lt_mul hlt
    have h2 : i % n < n := Nat.mod_lt _ (by omega)
    rw [wrap64_id (x := cnt w h * cnt w h) (by omega) (by omega), if_pos (by omega), if_neg (by omega), tdiv_of (by omega), tmod_of (by omega)]
    have e1 : (i : Int) / cnt w h = ((i / n : Nat) : Int) := by rw [hn]; simp
    have e2 : (i : Int) % cnt w h = ((i % n : Nat) : Int) := by rw [hn]; simp
    have hA : wrap64 ((i / n : Nat) : Int) = ((i / n : Nat) : Int) := by
      generalize i / n = q at h1 ⊢
      exact wrap64_id (by omega) (by omega)
    have hB : nd w h ((i / n : Nat) : Int) = true := by
      generalize i / n = q at h1 ⊢
      exact nd_iff.2 ⟨by omega, by omega⟩
    have hC : nd w h ((i % n : Nat) : Int) = true := by
      generalize i % n = q at h2 ⊢
      exact nd_iff.2 ⟨by omega, by omega⟩
    rw [e1, e2, hA, spec_l05Port_eq w h r _ _ k (by omega) hB hC hr]
    simp only [Option.bind_some]
    have hxl : x.length = i := by rw [hx]; simp
    rw [if_pos (by omega), w64s (by omega)]
    refine ih (i + 1) k _ (by omega) (by omega) ?_
    rw [hx, List.range_succ, List.map_append]
    congr 1
    simp [stdG, hn]
theorem spec_l05Make_eq (w h r : Int) (k : Nat) (g : gok w h = true) (hr : inR r 1 4 = true) (hk : 300 < k) : spec_l05Make.f k w h r = some (stdT w h r) := by
  unfold spec_l05Make.f
  have sq := cnt_sq w h
  rw [spec_NodeCount_eq]
  simp only [Option.bind_some]
  exact l05Make_loop w h r g hr ((cnt w h).toNat * (cnt w h).toNat) 0 k [] (by omega) (by omega) rfl

theorem impl_endOf_eq (w h : Int) (l : List Int) (c : Int) (h0 : 0 ≤ c) (h1 : c ≤ 1000) : impl_endOf.f w h l c = some (nxt w h (c / 4) (c % 4)) := by
  unfold impl_endOf.f
  rw [tmod_of h0, tdiv_of h0, wrap64_id (by omega) (by omega), impl_NextNode_eq]
  rfl

/-- the nodes of a route, channel by channel -/
def rts (w h : Int) (l : List Int) : List Int → List Int → List Int
  | [], out => out
  | c :: r, out => if (hasC w h l c && (decide (out.length = 0) || decide (c / 4 = rd out ((out.length : Int) - 1)))) = true then rts w h l r ((if out.length = 0 then [c / 4] else out) ++ [nxt w h (c / 4) (c % 4)]) else []
theorem hasC_bd {w h : Int} {l : List Int} {c : Int} (q : hasC w h l c = true) : meshOk w h l = true ∧ (leads w h c && !decide (c ∈ l)) = true ∧ 0 ≤ c ∧ c < 64 := by
  unfold hasC at q
  have q2 : (leads w h c && !decide (c ∈ l)) = true := by simp only [Bool.and_eq_true] at q ⊢; exact q.2
  simp only [Bool.and_eq_true] at q
  have := leads_iff.1 q.2.1
  have := cnt_bd w h
  exact ⟨q.1, q2, by omega, by omega⟩
theorem impl_RouteNodes_loop (w h : Int) (l p : List Int) (hl : l.length ≤ 1048576) (hp : p.length ≤ 1048576) : ∀ (d i k : Nat) (out : List Int), i + d = p.length → 1048600 + 2 * d < k → (out.length = if i = 0 then 0 else i + 1) → impl_RouteNodes.l0 k out p (p.length : Int) (i : Int) w h l = some (rts w h l (p.drop i) out) := by
  intro d
  induction d with
  | zero =>
    intro i k out hi hk ho
    obtain ⟨k, rfl⟩ : ∃ m, k = m + 1 := ⟨k - 1, by omega⟩
    simp only [impl_RouteNodes.l0]
    rw [if_neg (by omega), List.drop_eq_nil_of_le (by omega)]
    rfl
  | succ d ih =>
    intro i k out hi hk ho
    obtain ⟨k, rfl⟩ : ∃ m, k = m + 1 + 1 := ⟨k - 2, by omega⟩
    simp only [impl_RouteNodes.l0]
    rw [if_pos (by omega), if_pos (by omega), if_pos (by omega), drop_rd p i (by omega), impl_HasChannel_eq w h l _ (k + 1) hl (by omega)]
    generalize hc : rd p (i : Int) = c
    simp only [Option.bind_some, rts]
    by_cases q : hasC w h l c = true
    · obtain ⟨q1, q2, q3, q4⟩ := hasC_bd q
      rw [if_pos q]
      by_cases z : i = 0
      · subst z
        rw [if_pos rfl] at ho
        have : out = [] := List.eq_nil_of_length_eq_zero ho
        subst this
        rw [if_neg (by simp)]
        simp only [impl_RouteNodes.j1]
        rw [if_neg (by simp), if_pos (by simp), if_pos (by simp), impl_endOf_eq w h l c q3 (by omega), tdiv_of q3, wrap64_id (x := c / 4) (by omega) (by omega)]
        simp only [Option.bind_some]
        rw [if_pos (by simp), w64s (by omega), ih 1 k _ (by omega) (by omega) (by simp)]
        simp [q]
      · rw [if_neg z] at ho
        rw [if_pos (by omega), if_pos (by omega), tdiv_of q3, wrap64_id (x := c / 4) (by omega) (by omega)]
        have hx : (out.length : Int) - 1 = (i : Int) := by omega
        simp only [impl_RouteNodes.j1]
        by_cases e : c / 4 = rd out (i : Int)
        · rw [if_neg (by simp [e]), if_neg (by omega), impl_endOf_eq w h l c q3 (by omega)]
          simp only [Option.bind_some]
          rw [if_pos (by omega), w64s (by omega), ih (i + 1) k _ (by omega) (by omega) (by simp; omega), hx]
          simp [q, e, show out.length ≠ 0 by omega]
        · rw [if_pos (by simpa using e), hx]
          simp [q, e, show out.length ≠ 0 by omega]
    · rw [if_neg q]
      simp only [impl_RouteNodes.j1]
      simp [q]
theorem impl_RouteNodes_eq (w h : Int) (l p : List Int) (k : Nat) (hl : l.length ≤ 1048576) (hp : p.length ≤ 1048576) (hk : 3300000 < k) : impl_RouteNodes.f k w h l p = some (rts w h l p []) := by
  unfold impl_RouteNodes.f
  have e := impl_RouteNodes_loop w h l p hl hp p.length 0 k [] (by omega) (by omega) (by simp)
  simpa using e
theorem rts_len (w h : Int) (l : List Int) : ∀ (p out : List Int), (rts w h l p out).length ≤ out.length + p.length + (if out.length = 0 then 1 else 0)
  | [], out => by simp only [rts]; omega
  | c :: r, out => by
    simp only [rts]
    split
    · have e := rts_len w h l r ((if out.length = 0 then [c / 4] else out) ++ [nxt w h (c / 4) (c % 4)])
      refine Nat.le_trans e ?_
      by_cases z : out.length = 0
      · simp [z]; omega
      · simp [z]; omega
    · simp

theorem impl_IsRoute_eq (w h : Int) (l p : List Int) (k : Nat) (hl : l.length ≤ 1048576) (hp : p.length ≤ 1048576) (hk : 3300000 < k) : impl_IsRoute.f k w h l p = some (decide (((rts w h l p []).length : Int) > 0)) := by
  unfold impl_IsRoute.f
  rw [impl_RouteNodes_eq w h l p k hl hp hk]
  rfl

/-- no entry from the place i on stands before itself -/
def noRep (n : List Int) : Nat → Nat → Bool
  | _, 0 => decide ((n.length : Int) > 0)
  | i, d + 1 => if rd n (i : Int) ∈ n.take i then false else noRep n (i + 1) d
theorem impl_IsLoopFree_loop (n : List Int) (hn : n.length ≤ 1048577) : ∀ (d i k : Nat), i + d = n.length → 1048600 + d < k → impl_IsLoopFree.l0 k n n (n.length : Int) (i : Int) = some (noRep n i d) := by
  intro d
  induction d with
  | zero =>
    intro i k hi hk
    obtain ⟨k, rfl⟩ : ∃ m, k = m + 1 := ⟨k - 1, by omega⟩
    simp only [impl_IsLoopFree.l0]
    rw [if_neg (by omega)]
    rfl
  | succ d ih =>
    intro i k hi hk
    obtain ⟨k, rfl⟩ : ∃ m, k = m + 1 := ⟨k - 1, by omega⟩
    simp only [impl_IsLoopFree.l0]
    rw [if_pos (by omega), if_pos (by omega), if_pos (by omega), if_pos (by omega), show ((i : Int)).toNat = i by simp, slicesContains_eq (n.take i) _ k (by simp; omega) (by omega)]
    simp only [Option.bind_some, noRep]
    by_cases q : rd n (i : Int) ∈ n.take i
    · simp [q]
    · rw [if_neg (by simpa using q), if_neg q, w64s (by omega), ih (i + 1) k (by omega) (by omega)]
theorem impl_IsLoopFree_eq (w h : Int) (l p : List Int) (k : Nat) (hl : l.length ≤ 1048576) (hp : p.length ≤ 1048576) (hk : 3300000 < k) : impl_IsLoopFree.f k w h l p = some (noRep (rts w h l p []) 0 (rts w h l p []).length) := by
  unfold impl_IsLoopFree.f
  rw [impl_RouteNodes_eq w h l p k hl hp hk]
  have b := rts_len w h l p []
  simp at b
  have e := impl_IsLoopFree_loop (rts w h l p []) (by omega) (rts w h l p []).length 0 k (by omega) (by omega)
  simpa using e

/-- a walk by the table, from a on, d channels at most -/
def wlk (w h : Int) (l p : List Int) (t : Int) : Nat → Int → List Int → List Int
  | 0, a, out => if rd p (a * cnt w h + t) = 4 then (if a = t then out else []) else []
  | d + 1, a, out => if rd p (a * cnt w h + t) = 4 then (if a = t then out else []) else if (inR (rd p (a * cnt w h + t)) 0 3 && hasC w h l (4 * a + rd p (a * cnt w h + t))) = true then wlk w h l p t d (nxt w h a (rd p (a * cnt w h + t))) (out ++ [4 * a + rd p (a * cnt w h + t)]) else []
theorem hasC_lead {w h : Int} {l : List Int} {a q : Int} (c : hasC w h l (4 * a + q) = true) (h0 : 0 ≤ q) (h1 : q ≤ 3) : nd w h (nxt w h a q) = true ∧ (leads w h (4 * a + q) && !decide (4 * a + q ∈ l)) = true := by
  unfold hasC at c
  have q2 : (leads w h (4 * a + q) && !decide (4 * a + q ∈ l)) = true := by simp only [Bool.and_eq_true] at c ⊢; exact c.2
  refine ⟨?_, q2⟩
  simp only [Bool.and_eq_true] at c
  have b := (leads_iff.1 c.2.1).2
  rw [show (4 * a + q) / 4 = a by omega, show (4 * a + q) % 4 = q by omega] at b
  exact (nxt_nd b).2
theorem impl_walk_loop (w h : Int) (l p : List Int) (t : Int) (hl : l.length ≤ 1048576) (m : meshOk w h l = true) (e : nd w h t = true) (hp : (p.length : Int) = cnt w h * cnt w h) : ∀ (d k : Nat) (a : Int) (out : List Int), nd w h a = true → (out.length : Int) + d = cnt w h → 1048600 + d < k → impl_WalkTable.l0 k t out a w h l p = some (wlk w h l p t d a out) := by
  have bc := cnt_bd w h
  intro d
  induction d with
  | zero =>
    intro k a out da ho hk
    obtain ⟨k, rfl⟩ : ∃ m, k = m + 1 := ⟨k - 1, by omega⟩
    have ba := nd_bd da
    have eP : prt w h l p a t = if inR (rd p (a * cnt w h + t)) 0 4 = true then rd p (a * cnt w h + t) else -1 := by unfold prt; simp [m, da, e, hp]
    simp only [impl_WalkTable.l0]
    rw [impl_PortAt_eq w h l p a t k hl (by omega), eP]
    simp only [wlk]
    generalize hq : rd p (a * cnt w h + t) = q
    simp only [Option.bind_some]
    by_cases c4 : q = 4
    · subst c4
      rw [if_pos (show inR 4 0 4 = true from rfl), if_neg (by omega), if_pos rfl, if_pos rfl]
      by_cases z : a = t
      · rw [if_pos z, if_pos z]
      · rw [if_neg z, if_neg z]
    · rw [if_neg c4]
      by_cases r : inR q 0 4 = true
      · have rb := inR_iff.1 r
        rw [if_pos r, if_neg (by omega), if_neg c4, wrap64_id (x := 4 * a) (by omega) (by omega), wrap64_id (x := 4 * a + q) (by omega) (by omega), impl_HasChannel_eq w h l _ k hl (by omega)]
        simp only [Option.bind_some]
        by_cases c : hasC w h l (4 * a + q) = true
        · rw [if_pos c, impl_NodeCount_eq]
          simp only [Option.bind_some]
          rw [if_pos (by omega)]
        · rw [if_neg c]
      · rw [if_neg r, if_pos (by omega)]
  | succ d ih =>
    intro k a out da ho hk
    obtain ⟨k, rfl⟩ : ∃ m, k = m + 1 := ⟨k - 1, by omega⟩
    have ba := nd_bd da
    have eP : prt w h l p a t = if inR (rd p (a * cnt w h + t)) 0 4 = true then rd p (a * cnt w h + t) else -1 := by unfold prt; simp [m, da, e, hp]
    simp only [impl_WalkTable.l0]
    rw [impl_PortAt_eq w h l p a t k hl (by omega), eP]
    simp only [wlk]
    generalize hq : rd p (a * cnt w h + t) = q
    simp only [Option.bind_some]
    by_cases c4 : q = 4
    · subst c4
      rw [if_pos (show inR 4 0 4 = true from rfl), if_neg (by omega), if_pos rfl, if_pos rfl]
      by_cases z : a = t
      · rw [if_pos z, if_pos z]
      · rw [if_neg z, if_neg z]
    · rw [if_neg c4]
      by_cases r : inR q 0 4 = true
      · have rb := inR_iff.1 r
        have r3 : inR q 0 3 = true := inR_iff.2 (by omega)
        rw [if_pos r, if_neg (by omega), if_neg c4, wrap64_id (x := 4 * a) (by omega) (by omega), wrap64_id (x := 4 * a + q) (by omega) (by omega), impl_HasChannel_eq w h l _ k hl (by omega)]
        simp only [Option.bind_some, r3, Bool.true_and]
        by_cases c : hasC w h l (4 * a + q) = true
        · rw [if_pos c, impl_NodeCount_eq, if_pos c]
          simp only [Option.bind_some]
          rw [if_neg (by omega), if_pos (by omega), impl_endOf_eq w h l _ (by omega) (by omega), show (4 * a + q) / 4 = a by omega, show (4 * a + q) % 4 = q by omega]
          simp only [Option.bind_some]
          rw [ih k _ _ (hasC_lead c (by omega) (by omega)).1 (by simp; omega) (by omega)]
        · rw [if_neg c, if_neg c]
      · have r3 : inR q 0 3 = false := inR_no.2 (fun x => r (inR_iff.2 (by omega)))
        rw [if_neg r, if_pos (by omega), if_neg (by simp [r3])]
def wt (w h : Int) (l p : List Int) (a b : Int) : List Int := wlk w h l p b (cnt w h).toNat a []
theorem wlk_len (w h : Int) (l p : List Int) (t : Int) : ∀ (d : Nat) (a : Int) (out : List Int), (wlk w h l p t d a out).length ≤ out.length + d
  | 0, a, out => by
    simp only [wlk]
    split
    · split <;> simp
    · simp
  | d + 1, a, out => by
    simp only [wlk]
    split
    · split <;> simp
    · split
      · have := wlk_len w h l p t d (nxt w h a (rd p (a * cnt w h + t))) (out ++ [4 * a + rd p (a * cnt w h + t)])
        simp at this; omega
      · simp
theorem wt_len (w h : Int) (l p : List Int) (a b : Int) : (wt w h l p a b).length ≤ 16 := by
  have q := wlk_len w h l p b (cnt w h).toNat a []
  have := cnt_bd w h
  unfold wt
  simp only [List.length_nil, Nat.zero_add] at q
  omega
/-- the walk, where the mesh, the table's size and the nodes are good -/
def wtb (w h : Int) (l p : List Int) (a b : Int) : List Int := if (decide (a ≠ b) && (meshOk w h l && (nd w h a && (nd w h b && decide ((p.length : Int) = cnt w h * cnt w h))))) = true then wt w h l p a b else []
theorem impl_WalkTable_eq (w h : Int) (l p : List Int) (a b : Int) (k : Nat) (hl : l.length ≤ 1048576) (hk : 1048700 < k) : impl_WalkTable.f k w h l p a b = some (wtb w h l p a b) := by
  have bc := cnt_bd w h
  obtain ⟨k, rfl⟩ : ∃ m, k = m + 1 + 1 := ⟨k - 2, by omega⟩
  unfold impl_WalkTable.f wtb
  by_cases z : a = b
  · rw [if_pos z]; simp [impl_WalkTable.j0, z]
  rw [if_neg z, impl_MeshOk_eq w h l _ hl (by omega), impl_isNode_eq, impl_isNode_eq]
  simp only [Option.bind_some, impl_WalkTable.j0]
  by_cases m : meshOk w h l = true
  · rw [if_pos m]
    by_cases da : nd w h a = true
    · rw [if_pos da]
      by_cases e : nd w h b = true
      · rw [if_neg (by simp [e])]
        by_cases hp : (p.length : Int) = cnt w h * cnt w h
        · rw [if_pos (by simp [z, m, da, e, hp])]
          exact impl_walk_loop w h l p b hl m e hp _ (k + 1) a [] da (by simp; omega) (by omega)
        · rw [if_neg (by simp [hp])]
          simp only [impl_WalkTable.l0]
          rw [impl_PortAt_eq w h l p a b k hl (by omega), show prt w h l p a b = -1 by unfold prt; simp [hp]]
          rfl
      · rw [if_pos (by simp [e]), if_neg (by simp [e])]
    · rw [if_neg da]; simp [da]
  · rw [if_neg m]; simp [m]

theorem drawTable_ok (b : List Int) (k : Nat) (hb : b.length ≤ 1048576) (hk : 4000 < k) : ∃ w h r, spec_DrawTable.f k b = some (w, h, [], stdT w h r) ∧ w ∈ [(1 : Int), 2, 3, 4] ∧ h ∈ [(1 : Int), 2, 3, 4] ∧ r ∈ [(1 : Int), 2, 3, 4] := by
  unfold spec_DrawTable.f
  obtain ⟨h0, e0, c0⟩ := new_ok b k hb hk
  rw [e0]
  simp only [Option.bind_some]
  unfold spec_l04Case.f
  obtain ⟨w, h, i, g, e1, c1, m1, m2⟩ := grid_ok (h := h0) c0
  rw [e1]
  simp only [Option.bind_some]
  obtain ⟨r, i', h', e2, c2, r0, r1⟩ := below_ok (h := g) c1 (show (0 : Int) < 4 by omega)
  rw [e2]
  simp only [Option.bind_some]
  rw [wrap64_id (x := 1 + r) (by omega) (by omega), spec_l05Make_eq w h (1 + r) k (gok_iff.2 (by simp at m1 m2; omega)) (inR_iff.2 (by omega)) (by omega)]
  exact ⟨w, h, 1 + r, rfl, m1, m2, by simp; omega⟩

def chkW (w h r a b : Int) (p : List Int) : Bool :=
  let W := wt w h [] p a b
  let N := rts w h [] W []
  if a = b then decide (rd p (a * cnt w h + a) = 4)
  else decide (W.length ≠ 0) && (decide (N.length = W.length + 1) && (decide (rd N 0 = a) && (decide (rd N (W.length : Int) = b) && (decide (dist w h a b ≤ (W.length : Int)) && (noRep N 0 N.length && decide (rd p (a * cnt w h + b) = rd W 0 % 4 ∧ 0 ≤ rd W 0 ∧ 0 ≤ rd W 0 % 4 ∧ rd W 0 % 4 ≤ 3))))))
def chkT (w h r : Int) : Bool := (List.range (cnt w h).toNat).all fun a => (List.range (cnt w h).toNat).all fun b => chkW w h r a b (stdT w h r)
set_option maxRecDepth 100000 in
theorem chk1 : ([1, 2, 3, 4] : List Int).all (fun h => ([1, 2, 3, 4] : List Int).all fun r => chkT 1 h r) = true := by decide +kernel
set_option maxRecDepth 100000 in
theorem chk2 : ([1, 2, 3, 4] : List Int).all (fun h => ([1, 2, 3, 4] : List Int).all fun r => chkT 2 h r) = true := by decide +kernel
set_option maxRecDepth 100000 in
theorem chk3 : ([1, 2, 3, 4] : List Int).all (fun h => ([1, 2, 3, 4] : List Int).all fun r => chkT 3 h r) = true := by decide +kernel
set_option maxRecDepth 100000 in
theorem chk4 : ([1, 2, 3, 4] : List Int).all (fun h => ([1, 2, 3, 4] : List Int).all fun r => chkT 4 h r) = true := by decide +kernel
theorem chk_of {w h r a b : Int} (mw : w ∈ [(1 : Int), 2, 3, 4]) (mh : h ∈ [(1 : Int), 2, 3, 4]) (mr : r ∈ [(1 : Int), 2, 3, 4]) (da : nd w h a = true) (db : nd w h b = true) : chkW w h r a b (stdT w h r) = true := by
  have t : chkT w h r = true := by
    simp only [List.mem_cons, List.not_mem_nil, or_false] at mw
    rcases mw with rfl | rfl | rfl | rfl
    · exact List.all_eq_true.1 (List.all_eq_true.1 chk1 h mh) r mr
    · exact List.all_eq_true.1 (List.all_eq_true.1 chk2 h mh) r mr
    · exact List.all_eq_true.1 (List.all_eq_true.1 chk3 h mh) r mr
    · exact List.all_eq_true.1 (List.all_eq_true.1 chk4 h mh) r mr
  have ba := nd_iff.1 da
  have bb := nd_iff.1 db
  have t2 := List.all_eq_true.1 (List.all_eq_true.1 t a.toNat (List.mem_range.2 (by omega))) b.toNat (List.mem_range.2 (by omega))
  rwa [show ((a.toNat : Nat) : Int) = a by omega, show ((b.toNat : Nat) : Int) = b by omega] at t2
theorem FnTableWalks : laws_FnTableWalks.Pure := by
  intro l hm _ _
  obtain ⟨k, hk⟩ : ∃ k : Nat, 4000000 ≤ k := ⟨_, Nat.le_refl _⟩
  refine ⟨k + 1, ?_⟩
  unfold laws_FnTableWalks.f
  rw [big_eq]
  simp only [Option.bind_some]
  by_cases hb : 1048576 < l.length
  · rw [if_pos (by simpa using hb)]
  · rw [if_neg (by simpa using hb)]
    obtain ⟨w, h, r, e1, mw, mh, mr⟩ := drawTable_ok l (k + 1) (by omega) (by omega)
    obtain ⟨p, e2, pl, py⟩ := places_ok l (k + 1) (by omega) (by omega)
    rw [e1]
    simp only [Option.bind_some]
    rw [e2]
    simp only [Option.bind_some]
    have r0 := rd_places pl py 0 (by omega)
    have r1 := rd_places pl py 1 (by omega)
    rw [show ((0 : Nat) : Int) = 0 from rfl] at r0
    rw [show ((1 : Nat) : Int) = 1 from rfl] at r1
    have bw : 1 ≤ w ∧ w ≤ 4 := by simp at mw; omega
    have bh : 1 ≤ h ∧ h ≤ 4 := by simp at mh; omega
    have g : gok w h = true := gok_iff.2 ⟨bw, bh⟩
    have cp := cnt_pos g
    have cb := cnt_bd w h
    have co := cnt_ok g
    rw [co] at cp cb
    rw [if_pos (by omega), wrap64_id (x := w * h) (by omega) (by omega), if_neg (by omega), if_pos (by omega), tmod_of r0.1, tmod_of r1.1]
    have a0 : 0 ≤ rd p 0 % (w * h) := Int.emod_nonneg _ (by omega)
    have a1 : rd p 0 % (w * h) < w * h := Int.emod_lt_of_pos _ (by omega)
    have b0 : 0 ≤ rd p 1 % (w * h) := Int.emod_nonneg _ (by omega)
    have b1 : rd p 1 % (w * h) < w * h := Int.emod_lt_of_pos _ (by omega)
    generalize rd p 0 % (w * h) = a at a0 a1 ⊢
    generalize rd p 1 % (w * h) = b at b0 b1 ⊢
    have da : nd w h a = true := nd_iff.2 ⟨a0, by rw [co]; exact a1⟩
    have db : nd w h b = true := nd_iff.2 ⟨b0, by rw [co]; exact b1⟩
    have m : meshOk w h [] = true := by simp [meshOk, g, brOk]
    have sq := cnt_sq w h
    have hp : ((stdT w h r).length : Int) = cnt w h * cnt w h := by rw [stdT_len]; exact sq.2
    have C := chk_of mw mh mr da db
    rw [impl_WalkTable_eq w h [] (stdT w h r) a b (k + 1) (by simp) (by omega)]
    simp only [Option.bind_some]
    unfold chkW at C
    by_cases z : a = b
    · have hw : wtb w h [] (stdT w h r) a b = [] := by unfold wtb; simp [z]
      rw [if_pos z] at C
      have C := of_decide_eq_true C
      rw [if_pos z, hw, if_pos (by simp), impl_PortAt_eq w h [] (stdT w h r) a a (k + 1) (by simp) (by omega)]
      simp only [Option.bind_some]
      have e9 : prt w h [] (stdT w h r) a a = 4 := by unfold prt; rw [C, if_pos (by simp [m, da, hp, inR])]
      rw [e9]; rfl
    · have hw : wtb w h [] (stdT w h r) a b = wt w h [] (stdT w h r) a b := by unfold wtb; simp [z, m, da, db, hp]
      have wl := wt_len w h [] (stdT w h r) a b
      rw [if_neg z] at C
      rw [if_neg z, hw]
      generalize hW : wt w h [] (stdT w h r) a b = W at C wl ⊢
      simp only [Bool.and_eq_true, decide_eq_true_eq] at C
      obtain ⟨c1, c2, c3, c4, c5, c6, c7, c8, c9, c10⟩ := C
      have eR := impl_RouteNodes_eq w h [] W (k + 1) (by simp) (by omega) (by omega)
      have eI := impl_IsRoute_eq w h [] W k (by simp) (by omega) (by omega)
      have eL := impl_IsLoopFree_eq w h [] W k (by simp) (by omega) (by omega)
      have eD := impl_Distance_eq w h a b (k + 1) (by omega)
      have eP := impl_PortAt_eq w h [] (stdT w h r) a b k (by simp) (by omega)
      have e9 : prt w h [] (stdT w h r) a b = rd W 0 % 4 := by
        unfold prt
        rw [c7, inR_iff.2 ⟨c9, Int.le_trans c10 (by decide)⟩, m, da, db, decide_eq_true hp]
        rfl
      rw [eR]
      simp only [Option.bind_some]
      rw [eD]
      simp only [Option.bind_some, laws_FnTableWalks.j0]
      rw [eI, eL, eP, e9, tmod_of c8]
      simp only [Option.bind_some]
      generalize rts w h [] W [] = N at c2 c3 c4 c6 ⊢
      rw [c6]
      have C3 := Aside0.mk c3
      have C4 := Aside0.mk c4
      have n5 : ¬ (decide ((W.length : Int) < dist w h a b) = true) := by rw [decide_eq_true_eq]; exact Int.not_lt.2 c5
      clear c3 c4 c5 c6 c7 c8 c9 c10 eR eI eL eD eP e9 hW hw hp sq m da db a0 a1 b0 b1 z
      have x1 : ¬ ((W.length : Int) = 0) := by omega
      have x2 : (N.length : Int) = (W.length : Int) + 1 := by omega
      have y1 : 0 < (N.length : Int) := by omega
      have y2 : (W.length : Int) < (N.length : Int) := by omega
      have y3 : 0 < (W.length : Int) := by omega
      have y4 : 0 ≤ (W.length : Int) := by omega
      have y5 : (N.length : Int) - 1 = (W.length : Int) := by omega
      have E0 : Aside0 (wrap64 ((W.length : Int) + 1) = (W.length : Int) + 1) := ⟨wrap64_id (by omega) (by omega)⟩
      have y6 : wrap64 (W.length : Int) = (W.length : Int) := wrap64_id (by omega) (by omega)
      rw [if_neg x1, E0.out, if_pos x2, if_pos y1, if_pos C3.out, y5, y6, if_pos y4, if_pos y2, if_pos C4.out, if_neg n5, if_pos (decide_eq_true y1), if_pos rfl, if_pos y3]
      simp

end Go.Proofs.Ytiehmmannfambaa.Pure
