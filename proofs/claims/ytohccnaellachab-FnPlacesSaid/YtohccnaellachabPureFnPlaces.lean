/- What is proved: the statement FnPlaces, in its pure form, over numbers and lists: a node is found at its column and row, and distances are symmetric, satisfy the triangle inequality, and are at most the diameter, for every draw (no conditions). -/
import Derived.Test.YtohccnaellachabX22
import Derived.Test.YtohccnaellachabModel
set_option linter.unusedVariables false
set_option linter.unusedSimpArgs false
namespace Go.Proofs.Ytohccnaellachab.Pure
open Go.RowKit Go.Proofs.Ytohccnaellachab.X Go.Proofs.Ytohccnaellachab.M Go.Proofs.YtohccnaellachabW.PrintWords Go.Proofs.YtohccnaellachabW.PrintLast
theorem rd_nat (l : List Int) (i : Nat) (h : i < l.length) : rd l (i : Int) = l[i] := by unfold rd; simp [h]
theorem drop_rd (l : List Int) (i : Nat) (h : i < l.length) : l.drop i = rd l (i : Int) :: l.drop (i + 1) := by
  rw [rd_nat l i h]; exact List.drop_eq_getElem_cons h
theorem w64s {i : Nat} (h : i ≤ 9223372036854775806) : wrap64 ((i : Int) + 1) = ((i + 1 : Nat) : Int) := by rw [wrap64_id (by omega) (by omega)]; omega
theorem w64p {i : Nat} (h : i ≤ 9223372036854775806) (h0 : 0 < i) : wrap64 ((i : Int) - 1) = ((i - 1 : Nat) : Int) := by rw [wrap64_id (by omega) (by omega)]; omega

theorem impl_inside_eq (a b c : Int) : impl_inside.f a b c = some (inR a b c) := by
  unfold impl_inside.f inR
  by_cases h : b ≤ a <;> simp [h]

theorem impl_GridOk_eq (w h : Int) : impl_GridOk.f w h = some (gok w h) := by
  unfold impl_GridOk.f gok
  simp only [impl_inside_eq, Option.bind_some]
  cases inR w 1 4 <;> rfl

theorem impl_NodeCount_eq (w h : Int) : impl_NodeCount.f w h = some (cnt w h) := by
  unfold impl_NodeCount.f
  simp only [impl_GridOk_eq, Option.bind_some]
  by_cases g : gok w h = true
  · have b := cnt_bd w h
    rw [if_pos g, cnt_ok g]
    rw [cnt_ok g] at b
    rw [wrap64_id (by omega) (by omega)]
  · rw [if_neg g, cnt_no (by simpa using g)]

theorem impl_isNode_eq (w h n : Int) : impl_isNode.f w h n = some (nd w h n) := by
  have b := cnt_bd w h
  unfold impl_isNode.f nd
  simp only [impl_NodeCount_eq, impl_inside_eq, Option.bind_some]
  rw [wrap64_id (by omega) (by omega)]

theorem impl_NodeAt_eq (w h x y : Int) : impl_NodeAt.f w h x y = some (natx w h x y) := by
  unfold impl_NodeAt.f natx
  simp only [impl_GridOk_eq, impl_inside_eq, Option.bind_some]
  by_cases g : gok w h = true
  · have b := gok_iff.1 g
    rw [if_pos g, wrap64_id (x := w - 1) (by omega) (by omega), wrap64_id (x := h - 1) (by omega) (by omega)]
    by_cases hx : inR x 0 (w - 1) = true
    · rw [if_pos hx]
      by_cases hy : inR y 0 (h - 1) = true
      · rw [if_pos hy, if_pos (by simp [g, hx, hy])]
        rw [inR_iff] at hx hy
        have e : wrap64 (y * w) = y * w := by rcases w4 g with rfl | rfl | rfl | rfl <;> exact wrap64_id (by omega) (by omega)
        have e2 : wrap64 (y * w + x) = y * w + x := by rcases w4 g with rfl | rfl | rfl | rfl <;> exact wrap64_id (by omega) (by omega)
        rw [e, e2]
      · rw [if_neg hy, if_neg (by simp [hy])]
    · rw [if_neg hx, if_neg (by simp [hx])]
  · rw [if_neg g, if_neg (by simp [g])]

theorem impl_ColumnOf_eq (w h n : Int) : impl_ColumnOf.f w h n = some (col w h n) := by
  unfold impl_ColumnOf.f col
  simp only [impl_isNode_eq, Option.bind_some]
  by_cases d : nd w h n = true
  · have b := nd_bd d
    rw [if_pos d, if_pos d, if_neg (by omega), tmod_of (by omega)]
  · rw [if_neg d, if_neg d]

theorem impl_RowOf_eq (w h n : Int) : impl_RowOf.f w h n = some (row w h n) := by
  unfold impl_RowOf.f row
  simp only [impl_isNode_eq, Option.bind_some]
  by_cases d : nd w h n = true
  · have b := nd_bd d
    rw [if_pos d, if_pos d, if_neg (by omega), tdiv_of (by omega), wrap64_id (by omega) (by omega)]
  · rw [if_neg d, if_neg d]

theorem impl_gap_eq {a b : Int} (h : -100 ≤ a ∧ a ≤ 100) (h2 : -100 ≤ b ∧ b ≤ 100) : impl_gap.f a b = some (absd a b) := by
  unfold impl_gap.f absd mx
  rw [wrap64_id (x := a - b) (by omega) (by omega), wrap64_id (by omega) (by omega)]
  by_cases c : a ≤ b
  · rw [if_pos c]; split <;> (congr 1 <;> omega)
  · rw [if_neg c]; split <;> (congr 1 <;> omega)

theorem impl_Distance_eq (w h a b : Int) (k : Nat) (hk : 1 ≤ k) : impl_Distance.f k w h a b = some (dist w h a b) := by
  obtain ⟨k, rfl⟩ : ∃ m, k = m + 1 := ⟨k - 1, by omega⟩
  unfold impl_Distance.f dist
  simp only [impl_isNode_eq, Option.bind_some, impl_Distance.j0]
  by_cases d : nd w h a = true
  · rw [if_pos d]
    by_cases e : nd w h b = true
    · have b1 := nd_bd d
      have b2 := nd_bd e
      rw [if_neg (show ¬ ((!nd w h b) = true) by simp [e]), if_pos (show (nd w h a && nd w h b) = true by simp [d, e]), if_neg (show ¬ w = 0 by omega), tmod_of (by omega), tmod_of (by omega), tdiv_of (by omega), tdiv_of (by omega), wrap64_id (x := a / w) (by omega) (by omega), wrap64_id (x := b / w) (by omega) (by omega)]
      rw [impl_gap_eq (by omega) (by omega), impl_gap_eq (by omega) (by omega)]
      simp only [Option.bind_some]
      rw [wrap64_id (by unfold absd; split <;> split <;> omega) (by unfold absd; split <;> split <;> omega)]
    · rw [if_pos (show (!nd w h b) = true by simp [e]), if_neg (show ¬ (nd w h a && nd w h b) = true by simp [e])]
  · rw [if_neg d, if_pos trivial, if_neg (show ¬ (nd w h a && nd w h b) = true by simp [d])]

theorem impl_Diameter_eq (w h : Int) : impl_Diameter.f w h = some (diam w h) := by
  unfold impl_Diameter.f diam
  simp only [impl_GridOk_eq, Option.bind_some]
  by_cases g : gok w h = true
  · have b := gok_iff.1 g
    rw [if_pos g, if_pos g, wrap64_id (x := w + h) (by omega) (by omega), wrap64_id (by omega) (by omega)]
  · rw [if_neg g, if_neg g]

theorem i64_and255 (n : Int) : bits .and .i64 n 255 = n % 256 := by
  have h : (BitVec.ofInt 64 255).toNat = 2 ^ 8 - 1 := by decide
  have key : (BitVec.ofInt 64 n &&& BitVec.ofInt 64 255).toNat = (n % ((2 ^ 64 : Nat) : Int)).toNat % 2 ^ 8 := by
    rw [BitVec.toNat_and, BitVec.toNat_ofInt, h, Nat.and_two_pow_sub_one_eq_mod]
  show IntKind.i64.wrap ((BitVec.ofInt 64 n &&& BitVec.ofInt 64 255).toNat : Nat) = n % 256
  rw [key, IntKind.wrap_i64]
  omega
/-- the cursor: a place in the bytes -/
def Cur (b : List Int) (i : Int) : Prop := b.length ≤ 1048576 ∧ 0 ≤ i ∧ i ≤ b.length
theorem byte_ok {b : List Int} {i h : Int} (c : Cur b i) : ∃ r i' h', spec_l01Byte.f b i h = some (r, i', h') ∧ Cur b i' ∧ 0 ≤ r ∧ r ≤ 255 := by
  obtain ⟨c0, c1, c2⟩ := c
  unfold spec_l01Byte.f
  by_cases q : i < (b.length : Int)
  · rw [if_pos q, if_pos c1]
    refine ⟨_, _, _, rfl, ⟨c0, ?_, ?_⟩, ?_, ?_⟩
    · rw [wrap64_id (by omega) (by omega)]; omega
    · rw [wrap64_id (by omega) (by omega)]; omega
    · rw [i64_and255]; omega
    · rw [i64_and255]; omega
  · rw [if_neg q]
    refine ⟨_, _, _, rfl, ⟨c0, c1, c2⟩, ?_, ?_⟩
    · rw [i64_and255]; omega
    · rw [i64_and255]; omega

theorem below_ok {b : List Int} {i h n : Int} (c : Cur b i) (hn : 0 < n) : ∃ r i' h', spec_l01Below.f b i h n = some (r, i', h') ∧ Cur b i' ∧ 0 ≤ r ∧ r < n := by
  unfold spec_l01Below.f
  rw [if_neg (show ¬ n ≤ 0 by omega)]
  by_cases q : n ≤ 256
  · rw [if_pos q]
    obtain ⟨r, i', h', e, c', r0, r1⟩ := byte_ok (h := h) c
    rw [e]
    simp only [Option.bind_some]
    rw [if_neg (show ¬ n = 0 by omega), tmod_of r0]
    exact ⟨_, _, _, rfl, c', Int.emod_nonneg _ (by omega), Int.emod_lt_of_pos _ hn⟩
  · rw [if_neg q]
    obtain ⟨r1, i1, h1, e1, c1, a1, b1⟩ := byte_ok (h := h) c
    rw [e1]
    simp only [Option.bind_some]
    obtain ⟨r2, i2, h2, e2, c2, a2, b2⟩ := byte_ok (h := h1) c1
    rw [e2]
    simp only [Option.bind_some]
    obtain ⟨r3, i3, h3, e3, c3, a3, b3⟩ := byte_ok (h := h2) c2
    rw [e3]
    simp only [Option.bind_some]
    obtain ⟨r4, i4, h4, e4, c4, a4, b4⟩ := byte_ok (h := h3) c3
    rw [e4]
    simp only [Option.bind_some]
    rw [if_neg (show ¬ n = 0 by omega), wrap64_id (x := r1 * 16777216) (by omega) (by omega), wrap64_id (x := r2 * 65536) (by omega) (by omega), wrap64_id (x := r3 * 256) (by omega) (by omega), wrap64_id (x := r1 * 16777216 + r2 * 65536) (by omega) (by omega), wrap64_id (x := r1 * 16777216 + r2 * 65536 + r3 * 256) (by omega) (by omega), wrap64_id (by omega) (by omega), tmod_of (by omega)]
    exact ⟨_, _, _, rfl, c4, Int.emod_nonneg _ (by omega), Int.emod_lt_of_pos _ hn⟩
theorem below0_ok {b : List Int} {i h n : Int} (c : Cur b i) (hn : n ≤ 0) : spec_l01Below.f b i h n = some (0, i, h) := by
  unfold spec_l01Below.f
  rw [if_pos hn]

theorem pick_ok {b : List Int} {i h : Int} {l : List Int} (c : Cur b i) (hl : 0 < l.length) : ∃ r i' h', spec_l01PickInt.f b i h l = some (r, i', h') ∧ Cur b i' ∧ r ∈ l := by
  unfold spec_l01PickInt.f
  obtain ⟨r, i', h', e, c', r0, r1⟩ := below_ok (h := h) c (show 0 < (l.length : Int) by omega)
  rw [e]
  simp only [Option.bind_some]
  rw [if_pos r0, if_pos r1]
  refine ⟨_, _, _, rfl, c', ?_⟩
  obtain ⟨n, rfl⟩ := Int.eq_ofNat_of_zero_le r0
  rw [rd_nat l n (by omega)]
  exact List.getElem_mem _

theorem new_loop (b : List Int) : ∀ (d i k : Nat) (h : Int), i + d = 4000 → d < k → ∃ h', spec_l01New.l0 k b h (i : Int) = some (b, 0, h') := by
  intro d
  induction d with
  | zero =>
    intro i k h hi hk
    obtain ⟨k, rfl⟩ : ∃ m, k = m + 1 := ⟨k - 1, by omega⟩
    simp only [spec_l01New.l0]
    by_cases q : (i : Int) < (b.length : Int)
    · rw [if_pos q, if_neg (by omega)]; exact ⟨_, rfl⟩
    · rw [if_neg q]; exact ⟨_, rfl⟩
  | succ d ih =>
    intro i k h hi hk
    obtain ⟨k, rfl⟩ : ∃ m, k = m + 1 := ⟨k - 1, by omega⟩
    simp only [spec_l01New.l0]
    by_cases q : (i : Int) < (b.length : Int)
    · rw [if_pos q, if_pos (by omega), if_pos (by omega), w64s (by omega)]
      exact ih (i + 1) k _ (by omega) (by omega)
    · rw [if_neg q]; exact ⟨_, rfl⟩
theorem new_ok (b : List Int) (k : Nat) (hb : b.length ≤ 1048576) (hk : 4000 < k) : ∃ h, spec_l01New.f k b = some (b, 0, h) ∧ Cur b 0 := by
  unfold spec_l01New.f
  obtain ⟨h, e⟩ := new_loop b 4000 0 k (wrap64 (98459 + (b.length : Int))) (by omega) (by omega)
  exact ⟨h, e, hb, by omega, by omega⟩

theorem big_eq (l : List Int) : laws_big.f l = some (decide (1048576 < l.length)) := by
  unfold laws_big.f
  congr 1
  simp
  omega

theorem grid_ok {b : List Int} {i h : Int} (c : Cur b i) : ∃ w' h' i' g, spec_l02Grid.f b i h = some (w', h', i', g) ∧ Cur b i' ∧ w' ∈ [(1 : Int), 2, 3, 4] ∧ h' ∈ [(1 : Int), 2, 3, 4] := by
  unfold spec_l02Grid.f
  obtain ⟨r1, i1, h1, e1, c1, m1⟩ := pick_ok (h := h) (l := [1, 2, 2, 3, 3, 4]) c (by simp)
  rw [e1]
  simp only [Option.bind_some]
  obtain ⟨r2, i2, h2, e2, c2, m2⟩ := pick_ok (h := h1) (l := [1, 2, 2, 3, 3, 4]) c1 (by simp)
  rw [e2]
  refine ⟨_, _, _, _, rfl, c2, ?_, ?_⟩
  · simp at m1 ⊢; omega
  · simp at m2 ⊢; omega

theorem drawGrid_ok (b : List Int) (k : Nat) (hb : b.length ≤ 1048576) (hk : 4000 < k) : ∃ w h, spec_DrawGrid.f k b = some (w, h) ∧ w ∈ [(1 : Int), 2, 3, 4] ∧ h ∈ [(1 : Int), 2, 3, 4] := by
  unfold spec_DrawGrid.f
  obtain ⟨h0, e0, c0⟩ := new_ok b k hb hk
  rw [e0]
  simp only [Option.bind_some]
  obtain ⟨w, h, i, g, e1, _, m1, m2⟩ := grid_ok (h := h0) c0
  rw [e1]
  exact ⟨w, h, rfl, m1, m2⟩

theorem places_loop (b : List Int) : ∀ (d n k : Nat) (x : List Int) (i h : Int), n + d = 12 → d < k → x.length = n → (∀ y ∈ x, 0 ≤ y ∧ y < 10000) → Cur b i → ∃ p, spec_DrawPlaces.l0 k x (n : Int) b i h = some p ∧ p.length = 12 ∧ ∀ y ∈ p, 0 ≤ y ∧ y < 10000 := by
  intro d
  induction d with
  | zero =>
    intro n k x i h hn hk hx hy _
    obtain ⟨k, rfl⟩ : ∃ m, k = m + 1 := ⟨k - 1, by omega⟩
    simp only [spec_DrawPlaces.l0]
    rw [if_neg (by omega)]
    exact ⟨x, rfl, by omega, hy⟩
  | succ d ih =>
    intro n k x i h hn hk hx hy c
    obtain ⟨k, rfl⟩ : ∃ m, k = m + 1 := ⟨k - 1, by omega⟩
    simp only [spec_DrawPlaces.l0]
    obtain ⟨r, i', h', e, c', r0, r1⟩ := below_ok (h := h) c (show (0 : Int) < 10000 by omega)
    rw [if_pos (by omega), e]
    simp only [Option.bind_some]
    rw [if_pos (by omega), w64s (by omega)]
    refine ih (n + 1) k _ _ _ (by omega) (by omega) (by simp [hx]) ?_ c'
    intro y m
    rcases List.mem_append.1 m with m | m
    · exact hy y m
    · simp at m; subst m; exact ⟨r0, r1⟩
theorem places_ok (b : List Int) (k : Nat) (hb : b.length ≤ 1048576) (hk : 4000 < k) : ∃ p, spec_DrawPlaces.f k b = some p ∧ p.length = 12 ∧ ∀ y ∈ p, 0 ≤ y ∧ y < 10000 := by
  unfold spec_DrawPlaces.f
  obtain ⟨h0, e0, c0⟩ := new_ok b k hb hk
  rw [e0]
  simp only [Option.bind_some]
  exact places_loop b 12 0 k [] 0 h0 (by omega) (by omega) rfl (by simp) c0
theorem rd_places {p : List Int} (hp : p.length = 12) (hy : ∀ y ∈ p, 0 ≤ y ∧ y < 10000) (i : Nat) (hi : i < 12) : 0 ≤ rd p (i : Int) ∧ rd p (i : Int) < 10000 := by
  rw [rd_nat p i (by omega)]
  exact hy _ (List.getElem_mem _)

theorem absd_tri (a b c : Int) : absd a c ≤ absd a b + absd b c ∧ absd a b = absd b a ∧ 0 ≤ absd a b ∧ (absd a b = 0 ↔ a = b) := by
  unfold absd
  repeat' split
  all_goals omega
theorem FnPlaces : laws_FnPlaces.Pure := by
  intro l hm _ _
  refine ⟨5000, ?_⟩
  unfold laws_FnPlaces.f
  rw [big_eq]
  simp only [Option.bind_some]
  by_cases hb : 1048576 < l.length
  · rw [if_pos (by simpa using hb)]
  · rw [if_neg (by simpa using hb)]
    obtain ⟨w, h, e1, mw, mh⟩ := drawGrid_ok l 5000 (by omega) (by omega)
    obtain ⟨p, e2, pl, py⟩ := places_ok l 5000 (by omega) (by omega)
    rw [e1]
    simp only [Option.bind_some]
    rw [e2]
    simp only [Option.bind_some]
    have r0 := rd_places pl py 0 (by omega)
    have r1 := rd_places pl py 1 (by omega)
    have r2 := rd_places pl py 2 (by omega)
    rw [show ((0 : Nat) : Int) = 0 from rfl] at r0
    rw [show ((1 : Nat) : Int) = 1 from rfl] at r1
    rw [show ((2 : Nat) : Int) = 2 from rfl] at r2
    have bw : 1 ≤ w ∧ w ≤ 4 := by simp at mw; omega
    have bh : 1 ≤ h ∧ h ≤ 4 := by simp at mh; omega
    have g : gok w h = true := gok_iff.2 ⟨bw, bh⟩
    have cp := cnt_pos g
    have cb := cnt_bd w h
    have co := cnt_ok g
    rw [co] at cp cb
    rw [if_pos (by omega), wrap64_id (x := w * h) (by omega) (by omega), if_neg (by omega), if_pos (by omega), if_pos (by omega), tmod_of r0.1, tmod_of r1.1, tmod_of r2.1]
    have a0 : 0 ≤ rd p 0 % (w * h) := Int.emod_nonneg _ (by omega)
    have a1 : rd p 0 % (w * h) < w * h := Int.emod_lt_of_pos _ (by omega)
    have b0 : 0 ≤ rd p 1 % (w * h) := Int.emod_nonneg _ (by omega)
    have b1 : rd p 1 % (w * h) < w * h := Int.emod_lt_of_pos _ (by omega)
    have c0 : 0 ≤ rd p 2 % (w * h) := Int.emod_nonneg _ (by omega)
    have c1 : rd p 2 % (w * h) < w * h := Int.emod_lt_of_pos _ (by omega)
    generalize rd p 0 % (w * h) = a at a0 a1 ⊢
    generalize rd p 1 % (w * h) = b at b0 b1 ⊢
    generalize rd p 2 % (w * h) = c at c0 c1 ⊢
    have da : nd w h a = true := nd_iff.2 ⟨a0, by rw [co]; exact a1⟩
    have db : nd w h b = true := nd_iff.2 ⟨b0, by rw [co]; exact b1⟩
    have dc : nd w h c = true := nd_iff.2 ⟨c0, by rw [co]; exact c1⟩
    have na := nd_bd da
    have nb := nd_bd db
    have nc := nd_bd dc
    have hd : ∀ x y, nd w h x = true → nd w h y = true → dist w h x y = absd (x % w) (y % w) + absd (x / w) (y / w) := fun x y hx hy => by unfold dist; rw [if_pos (by simp [hx, hy])]
    have t1 := absd_tri (a % w) (b % w) (c % w)
    have t2 := absd_tri (a / w) (b / w) (c / w)
    have t3 := absd_tri (b % w) (a % w) (c % w)
    have t4 := absd_tri (b / w) (a / w) (c / w)
    have bnd : ∀ x y : Int, 0 ≤ x → x < 4 → 0 ≤ y → y < 4 → 0 ≤ absd x y ∧ absd x y ≤ 3 := by intro x y _ _ _ _; unfold absd; split <;> omega
    have q1 := bnd (a % w) (b % w) (by omega) (by omega) (by omega) (by omega)
    have q2 := bnd (a / w) (b / w) (by omega) (by omega) (by omega) (by omega)
    have q3 := bnd (b % w) (c % w) (by omega) (by omega) (by omega) (by omega)
    have q4 := bnd (b / w) (c / w) (by omega) (by omega) (by omega) (by omega)
    have q5 : absd (a % w) (b % w) ≤ w - 1 := by unfold absd; split <;> omega
    have q6 : absd (a / w) (b / w) ≤ h - 1 := by unfold absd; split <;> omega
    simp only [impl_Distance_eq w h _ _ 5000 (by omega), impl_NodeCount_eq, impl_ColumnOf_eq, impl_RowOf_eq, impl_NodeAt_eq, impl_Diameter_eq, Option.bind_some, hd a b da db, hd b a db da, hd a c da dc, hd b c db dc]
    have hcol : col w h a = a % w := by unfold col; rw [if_pos da]
    have hrow : row w h a = a / w := by unfold row; rw [if_pos da]
    have hat : natx w h (a % w) (a / w) = a := by rw [natx_ok g (by omega) (by omega) (by omega) (by omega)]; exact nd_split da
    have hz : (absd (a % w) (b % w) + absd (a / w) (b / w) = 0) ↔ a = b := by
      constructor
      · intro z
        by_cases e : a = b
        · exact e
        · exact absurd ⟨t1.2.2.2.1 (by omega), t2.2.2.2.1 (by omega)⟩ (apart da db e)
      · intro e; subst e
        have := t1.2.2.2.2 rfl
        have := t2.2.2.2.2 rfl
        omega
    have hbb : ((absd (a % w) (b % w) + absd (a / w) (b / w) == 0) == (a == b)) = true := by
      by_cases e : a = b
      · rw [show (absd (a % w) (b % w) + absd (a / w) (b / w) == 0) = true from beq_iff_eq.2 (hz.2 e), show (a == b) = true from beq_iff_eq.2 e]; rfl
      · rw [show (absd (a % w) (b % w) + absd (a / w) (b / w) == 0) = false from beq_eq_false_iff_ne.2 (fun z => e (hz.1 z)), show (a == b) = false from beq_eq_false_iff_ne.2 e]; rfl
    rw [if_pos co, hcol, hrow, hat, if_pos rfl, if_pos (by omega), if_pos hbb, if_pos (by omega), if_pos (by unfold diam; rw [if_pos g]; omega)]
    congr 1
    rw [wrap64_id (by omega) (by omega)]
    exact decide_eq_true (by omega)

end Go.Proofs.Ytohccnaellachab.Pure
