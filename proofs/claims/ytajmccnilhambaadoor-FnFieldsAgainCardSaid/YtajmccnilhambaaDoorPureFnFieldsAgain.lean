/- What is proved: the statement FnFieldsAgain, in its pure form: the fields of a drawn line, joined by single spaces, have the same fields. -/
import Derived.Test.YtajmccnilhambaaDoorXA2
import Derived.Test.YtajmccnilhambaaDoorPureSF
import Derived.Lib.ItoaNum
set_option linter.unusedVariables false
set_option linter.unusedSimpArgs false
namespace Go.Proofs.YtajmccnilhambaaDoor.PureFA
open Go.RowKit Go.Lib Go.Proofs.YtajmccnilhambaaDoor.XA Go.Proofs.YtajmccnilhambaaDoor.PureSF Go.Proofs.YtajmccnilhambaaDoorW.PrintWords Go.Proofs.YtajmccnilhambaaDoorW.PrintLast
theorem wrap64_id {x : Int} (h1 : -9223372036854775808 ≤ x) (h2 : x ≤ 9223372036854775807) : wrap64 x = x := by unfold wrap64; omega
theorem tmod_of {a b : Int} (h : 0 ≤ a) : Int.tmod a b = a % b := Int.tmod_eq_emod_of_nonneg h
theorem w64s {i : Nat} (h : i ≤ 9223372036854775806) : wrap64 ((i : Int) + 1) = ((i + 1 : Nat) : Int) := by unfold wrap64; omega
def bs (l : List UInt8) : ByteArray := ⟨l.toArray⟩
theorem bs_extract (s : ByteArray) (b i : Nat) : s.extract b i = bs ((s.data.toList.drop b).take (i - b)) := by
  apply ByteArray.ext
  rw [ByteArray.data_extract]
  apply Array.toList_inj.1
  rw [Array.toList_extract]
  simp [bs, List.extract]
theorem len_size (s : ByteArray) : s.data.toList.length = s.size := Array.length_toList
theorem bt_eq (s : ByteArray) (i : Nat) (h : i < s.data.toList.length) : bt s (i : Int) = ((s.data.toList[i]).toNat : Int) := by
  have h2 : i < s.size := by rw [← len_size]; exact h
  have z := bt_at s (i : Int) (by simpa using h2)
  rw [← z]
  simp
  rfl
theorem okB_cons (c : UInt8) (r : List UInt8) : ((c :: r).all okB = true) ↔ (okB c = true ∧ r.all okB = true) := by simp
/-- what both functions give -/
def res (s : ByteArray) : List ByteArray × Bool := if s.data.toList.length ≤ 600 ∧ s.data.toList.all okB = true ∧ (fields s.data.toList).length ≤ 24 then ((fields s.data.toList).map bs, true) else ([], false)
/-- the reference's loop from the place i on -/
def fin (out : List ByteArray) (cur r : List UInt8) : List ByteArray × Bool := if r.all okB = true ∧ out.length + (fieldsGo cur r).length ≤ 24 then (out ++ (fieldsGo cur r).map bs, true) else ([], false)
theorem spec_over (s : ByteArray) (out : List ByteArray) (b : Int) (i k : Nat) (hi : i = s.size + 1) (hk : 0 < k) : spec_SplitFields.l0 k s out b (i : Int) = some (if out.length ≤ 24 then (out, true) else ([], false)) := by
  obtain ⟨k, rfl⟩ : ∃ m, k = m + 1 := ⟨k - 1, by omega⟩
  simp only [spec_SplitFields.l0]
  rw [if_neg (by omega)]
  by_cases q : out.length ≤ 24
  · rw [if_neg (by omega), if_pos q]
  · rw [if_pos (by omega), if_neg q]
theorem spec_loop (s : ByteArray) (hs : s.size ≤ 600) : ∀ (d i b k : Nat) (out : List ByteArray), i + d = s.size → b ≤ i → 3 * d + 10 < k → out.length ≤ i → spec_SplitFields.l0 k s out (b : Int) (i : Int) = some (fin out ((s.data.toList.drop b).take (i - b)) (s.data.toList.drop i)) := by
  have hl := len_size s
  intro d
  induction d with
  | zero =>
    intro i b k out hi hb hk ho
    obtain ⟨k, rfl⟩ : ∃ m, k = m + 3 := ⟨k - 3, by omega⟩
    have hd : s.data.toList.drop i = [] := List.drop_eq_nil_of_le (by omega)
    simp only [spec_SplitFields.l0, spec_SplitFields.j1, spec_SplitFields.j2]
    rw [if_pos (by omega), if_neg (by omega), if_neg (by simp), if_neg (by omega), if_neg (by simp), hd]
    unfold fin
    by_cases q : b < i
    · have hne := piece_ne (l := s.data.toList) q (by omega)
      have hf : fieldsGo ((s.data.toList.drop b).take (i - b)) [] = [(s.data.toList.drop b).take (i - b)] := by
        simp only [fieldsGo]
        cases h : (s.data.toList.drop b).take (i - b) with
        | nil => exact absurd h hne
        | cons _ _ => rfl
      rw [if_pos (by omega), if_pos (by omega), if_pos (by omega), if_pos (by omega), if_pos (by omega), w64s (by omega), spec_over _ _ _ _ _ (by omega) (by omega), hf]
      simp only [Int.toNat_natCast, bs_extract]
      by_cases z : out.length + 1 ≤ 24
      · rw [if_pos (by simp; omega), if_pos ⟨by simp, by simp; omega⟩]
        simp
      · rw [if_neg (by simp; omega), if_neg (by simp; omega)]
    · have e : b = i := by omega
      have hc : (s.data.toList.drop b).take (i - b) = [] := by rw [e]; simp
      rw [if_neg (by omega), w64s (by omega), spec_over _ _ _ _ _ (by omega) (by omega), hc]
      simp only [fieldsGo, List.isEmpty_nil, if_true, List.length_nil, List.map_nil, List.append_nil]
      by_cases z : out.length ≤ 24
      · rw [if_pos z, if_pos ⟨by simp, by omega⟩]
      · rw [if_neg z, if_neg (by simp; omega)]
  | succ d ih =>
    intro i b k out hi hb hk ho
    obtain ⟨k, rfl⟩ : ∃ m, k = m + 3 := ⟨k - 3, by omega⟩
    have hil : i < s.data.toList.length := by omega
    obtain ⟨c, hc⟩ : ∃ c, s.data.toList[i] = c := ⟨_, rfl⟩
    have hg : s.data.toList[i]? = some c := by rw [List.getElem?_eq_getElem hil, hc]
    have hd := drop_at hg
    have hbt := bt_eq s i hil
    rw [hc] at hbt
    have hc256 := c.toNat_lt
    simp only [spec_SplitFields.l0, spec_SplitFields.j1, spec_SplitFields.j2]
    rw [if_pos (by omega), if_pos (by omega), if_pos (by omega), hbt, hd]
    by_cases ok : okB c = true
    · have okr := (okB_iff c).1 ok
      have hsp := isSp_ok c ok
      rw [if_neg (by omega), if_neg (show ¬ (decide ((c.toNat : Int) > 126) = true) by simp; omega), if_pos (by omega), if_pos (by omega)]
      have fin_step : ∀ (o : List ByteArray) (cu : List UInt8) (o' : List ByteArray) (cu' : List UInt8), o.length + (fieldsGo cu (c :: s.data.toList.drop (i + 1))).length = o'.length + (fieldsGo cu' (s.data.toList.drop (i + 1))).length → o ++ (fieldsGo cu (c :: s.data.toList.drop (i + 1))).map bs = o' ++ (fieldsGo cu' (s.data.toList.drop (i + 1))).map bs → fin o cu (c :: s.data.toList.drop (i + 1)) = fin o' cu' (s.data.toList.drop (i + 1)) := by
        intro o cu o' cu' h1 h2
        unfold fin
        simp only [okB_cons, ok, true_and]
        rw [h1, h2]
      by_cases sp : c.toNat = 32
      · have hs1 : isSp c = true := by rw [hsp]; exact decide_eq_true sp
        rw [if_neg (show ¬ (((c.toNat : Int) != 32) = true) by simp; omega)]
        by_cases q : b < i
        · have hne := piece_ne (l := s.data.toList) q (by omega)
          rw [if_pos (by omega), if_pos (by omega), if_pos (by omega), if_pos (by omega), if_pos (by omega), w64s (by omega), ih (i + 1) (i + 1) k _ (by omega) (by omega) (by omega) (by simp; omega)]
          simp only [Int.toNat_natCast, bs_extract]
          rw [Nat.sub_self, List.take_zero]
          congr 1
          symm
          refine fin_step _ _ _ _ ?_ ?_
          · rw [fieldsGo_end _ c _ hs1 hne]; simp; omega
          · rw [fieldsGo_end _ c _ hs1 hne]; simp
        · have e : b = i := by omega
          have hcur : (s.data.toList.drop b).take (i - b) = [] := by rw [e]; simp
          rw [if_neg (by omega), w64s (by omega), ih (i + 1) (i + 1) k _ (by omega) (by omega) (by omega) (by omega), hcur, Nat.sub_self, List.take_zero]
          congr 1
          symm
          refine fin_step _ _ _ _ ?_ ?_
          · rw [fieldsGo_sp c _ hs1]
          · rw [fieldsGo_sp c _ hs1]
      · have hs1 : isSp c = false := by rw [hsp]; exact decide_eq_false sp
        rw [if_pos (show (((c.toNat : Int) != 32) = true) by simp; omega), w64s (by omega), ih (i + 1) b k _ (by omega) (by omega) (by omega) (by omega), piece_more hb hg]
        congr 1
        symm
        refine fin_step _ _ _ _ ?_ ?_
        · rw [fieldsGo_more _ c _ hs1]
        · rw [fieldsGo_more _ c _ hs1]
    · have okr : ¬ (32 ≤ c.toNat ∧ c.toNat ≤ 126) := fun h => ok ((okB_iff c).2 h)
      have hf : ∀ cu, fin out cu (c :: s.data.toList.drop (i + 1)) = ([], false) := by
        intro cu
        unfold fin
        rw [if_neg (by rw [okB_cons]; intro h; exact ok h.1.1)]
      rw [hf]
      by_cases z : (c.toNat : Int) < 32
      · rw [if_pos z, if_pos trivial]
      · rw [if_neg z, if_pos (show (decide ((c.toNat : Int) > 126) = true) from decide_eq_true (by omega))]
theorem spec_eq (s : ByteArray) (k : Nat) (hk : 2000 < k) : spec_SplitFields.f k s = some (res s) := by
  have hl := len_size s
  unfold spec_SplitFields.f res
  simp only [Option.bind_some]
  by_cases q : s.size ≤ 600
  · rw [if_neg (by omega)]
    have e := spec_loop s q s.size 0 0 k [] (by omega) (by omega) (by omega) (by simp)
    rw [show ((0 : Nat) : Int) = 0 from rfl] at e
    rw [e]
    unfold fin fields
    simp only [List.drop_zero, Nat.sub_self, List.take_zero, List.length_nil, Nat.zero_add, List.nil_append]
    by_cases z : s.data.toList.all okB = true ∧ (fieldsGo [] s.data.toList).length ≤ 24
    · rw [if_pos z, if_pos ⟨by omega, z.1, z.2⟩]
    · rw [if_neg z, if_neg (fun h => z h.2)]
  · rw [if_pos (by omega), if_neg (by omega)]
theorem impl_end (s : ByteArray) (hs : s.size ≤ 600) (ha : s.data.toList.all okB = true) (k : Nat) (hk : 0 < k) : impl_SplitFields.l0 k s (s.size : Int) = some (res s) := by
  have hl := len_size s
  obtain ⟨k, rfl⟩ : ∃ m, k = m + 1 := ⟨k - 1, by omega⟩
  simp only [impl_SplitFields.l0]
  have ha2 : s.data.toList.all (fun b => decide (b.toNat < 128)) = true := by
    rw [List.all_eq_true] at ha ⊢
    intro b hb
    have := (okB_iff b).1 (ha b hb)
    exact decide_eq_true (by omega)
  rw [if_neg (by omega)]
  unfold strings_Fields.f
  rw [if_pos ⟨hs, ha2⟩]
  simp only [Option.bind_some, List.length_map]
  unfold res
  by_cases z : (fields s.data.toList).length ≤ 24
  · rw [if_neg (by omega), if_pos ⟨by omega, ha, z⟩]; rfl
  · rw [if_pos (by omega), if_neg (fun h => z h.2.2)]
theorem impl_loop (s : ByteArray) (hs : s.size ≤ 600) : ∀ (d i k : Nat), i + d = s.size → d < k → (s.data.toList.take i).all okB = true → impl_SplitFields.l0 k s (i : Int) = some (res s) := by
  have hl := len_size s
  intro d
  induction d with
  | zero =>
    intro i k hi hk ha
    have e : i = s.size := by omega
    subst e
    rw [← hl, List.take_length] at ha
    exact impl_end s hs ha k (by omega)
  | succ d ih =>
    intro i k hi hk ha
    obtain ⟨k, rfl⟩ : ∃ m, k = m + 1 := ⟨k - 1, by omega⟩
    have hil : i < s.data.toList.length := by omega
    obtain ⟨c, hc⟩ : ∃ c, s.data.toList[i] = c := ⟨_, rfl⟩
    have hg : s.data.toList[i]? = some c := by rw [List.getElem?_eq_getElem hil, hc]
    have hbt := bt_eq s i hil
    rw [hc] at hbt
    have hmem : c ∈ s.data.toList := List.mem_of_getElem? hg
    simp only [impl_SplitFields.l0]
    rw [if_pos (by omega), if_pos (by omega), hbt]
    by_cases ok : okB c = true
    · have okr := (okB_iff c).1 ok
      rw [if_neg (by omega), if_neg (by omega), w64s (by omega)]
      refine ih (i + 1) k (by omega) (by omega) ?_
      rw [List.take_add_one, hg, List.all_append, ha]
      simp [ok]
    · have okr : ¬ (32 ≤ c.toNat ∧ c.toNat ≤ 126) := fun h => ok ((okB_iff c).2 h)
      have hr : res s = ([], false) := by
        unfold res
        rw [if_neg (fun h => ok (List.all_eq_true.1 h.2.1 c hmem))]
      rw [hr]
      by_cases z : (c.toNat : Int) < 32
      · rw [if_pos z]
      · rw [if_neg z, if_pos (by omega)]
theorem impl_eq (s : ByteArray) (k : Nat) (hk : 2000 < k) : impl_SplitFields.f k s = some (res s) := by
  have hl := len_size s
  unfold impl_SplitFields.f
  by_cases q : s.size ≤ 600
  · rw [if_neg (by omega)]
    exact impl_loop s q s.size 0 k (by omega) (by omega) (by simp)
  · rw [if_pos (by omega)]
    unfold res
    rw [if_neg (by omega)]
theorem i64_and255 (n : Int) : bits .and .i64 n 255 = n % 256 := by
  have h : (BitVec.ofInt 64 255).toNat = 2 ^ 8 - 1 := by decide
  have key : (BitVec.ofInt 64 n &&& BitVec.ofInt 64 255).toNat = (n % ((2 ^ 64 : Nat) : Int)).toNat % 2 ^ 8 := by
    rw [BitVec.toNat_and, BitVec.toNat_ofInt, h, Nat.and_two_pow_sub_one_eq_mod]
  show IntKind.i64.wrap ((BitVec.ofInt 64 n &&& BitVec.ofInt 64 255).toNat : Nat) = n % 256
  rw [key, IntKind.wrap_i64]
  omega
/-- the cursor: a place in the bytes -/
def Cur (b : List Int) (i : Int) : Prop := b.length ≤ 1048576 ∧ 0 ≤ i ∧ i ≤ b.length
theorem byte_ok {b : List Int} {i h : Int} (c : Cur b i) : ∃ r i' h', spec_l01Byte.f b i h = some (r, i', h') ∧ Cur b i' ∧ 0 ≤ r ∧ r ≤ 255 := by
  obtain ⟨c0, c1, c2⟩ := c
  unfold spec_l01Byte.f
  by_cases q : i < (b.length : Int)
  · rw [if_pos q, if_pos c1]
    refine ⟨_, _, _, rfl, ⟨c0, ?_, ?_⟩, ?_, ?_⟩
    · rw [wrap64_id (by omega) (by omega)]; omega
    · rw [wrap64_id (by omega) (by omega)]; omega
    · rw [i64_and255]; omega
    · rw [i64_and255]; omega
  · rw [if_neg q]
    refine ⟨_, _, _, rfl, ⟨c0, c1, c2⟩, ?_, ?_⟩
    · rw [i64_and255]; omega
    · rw [i64_and255]; omega

theorem below_ok {b : List Int} {i h n : Int} (c : Cur b i) (hn : 0 < n) : ∃ r i' h', spec_l01Below.f b i h n = some (r, i', h') ∧ Cur b i' ∧ 0 ≤ r ∧ r < n := by
  unfold spec_l01Below.f
  rw [if_neg (show ¬ n ≤ 0 by omega)]
  by_cases q : n ≤ 256
  · rw [if_pos q]
    obtain ⟨r, i', h', e, c', r0, r1⟩ := byte_ok (h := h) c
    rw [e]
    simp only [Option.bind_some]
    rw [if_neg (show ¬ n = 0 by omega), tmod_of r0]
    exact ⟨_, _, _, rfl, c', Int.emod_nonneg _ (by omega), Int.emod_lt_of_pos _ hn⟩
  · rw [if_neg q]
    obtain ⟨r1, i1, h1, e1, c1, a1, b1⟩ := byte_ok (h := h) c
    rw [e1]
    simp only [Option.bind_some]
    obtain ⟨r2, i2, h2, e2, c2, a2, b2⟩ := byte_ok (h := h1) c1
    rw [e2]
    simp only [Option.bind_some]
    obtain ⟨r3, i3, h3, e3, c3, a3, b3⟩ := byte_ok (h := h2) c2
    rw [e3]
    simp only [Option.bind_some]
    obtain ⟨r4, i4, h4, e4, c4, a4, b4⟩ := byte_ok (h := h3) c3
    rw [e4]
    simp only [Option.bind_some]
    rw [if_neg (show ¬ n = 0 by omega), wrap64_id (x := r1 * 16777216) (by omega) (by omega), wrap64_id (x := r2 * 65536) (by omega) (by omega), wrap64_id (x := r3 * 256) (by omega) (by omega), wrap64_id (x := r1 * 16777216 + r2 * 65536) (by omega) (by omega), wrap64_id (x := r1 * 16777216 + r2 * 65536 + r3 * 256) (by omega) (by omega), wrap64_id (by omega) (by omega), tmod_of (by omega)]
    exact ⟨_, _, _, rfl, c4, Int.emod_nonneg _ (by omega), Int.emod_lt_of_pos _ hn⟩
theorem below0_ok {b : List Int} {i h n : Int} (c : Cur b i) (hn : n ≤ 0) : spec_l01Below.f b i h n = some (0, i, h) := by
  unfold spec_l01Below.f
  rw [if_pos hn]

theorem once_ok {b : List Int} {i h n : Int} (c : Cur b i) (hn : 0 < n) : ∃ r i' h', spec_l01Once.f b i h n = some (r, i', h') ∧ Cur b i' := by
  unfold spec_l01Once.f
  obtain ⟨r, i', h', e, c', _, _⟩ := below_ok (h := h) c hn
  rw [e]
  exact ⟨_, _, _, rfl, c'⟩

theorem new_loop (b : List Int) : ∀ (d i k : Nat) (h : Int), i + d = 4000 → d < k → ∃ h', spec_l01New.l0 k b h (i : Int) = some (b, 0, h') := by
  intro d
  induction d with
  | zero =>
    intro i k h hi hk
    obtain ⟨k, rfl⟩ : ∃ m, k = m + 1 := ⟨k - 1, by omega⟩
    simp only [spec_l01New.l0]
    by_cases q : (i : Int) < (b.length : Int)
    · rw [if_pos q, if_neg (by omega)]; exact ⟨_, rfl⟩
    · rw [if_neg q]; exact ⟨_, rfl⟩
  | succ d ih =>
    intro i k h hi hk
    obtain ⟨k, rfl⟩ : ∃ m, k = m + 1 := ⟨k - 1, by omega⟩
    simp only [spec_l01New.l0]
    by_cases q : (i : Int) < (b.length : Int)
    · rw [if_pos q, if_pos (by omega), if_pos (by omega), w64s (by omega)]
      exact ih (i + 1) k _ (by omega) (by omega)
    · rw [if_neg q]; exact ⟨_, rfl⟩
theorem new_ok (b : List Int) (k : Nat) (hb : b.length ≤ 1048576) (hk : 4000 < k) : ∃ h, spec_l01New.f k b = some (b, 0, h) ∧ Cur b 0 := by
  unfold spec_l01New.f
  obtain ⟨h, e⟩ := new_loop b 4000 0 k (wrap64 (98459 + (b.length : Int))) (by omega) (by omega)
  exact ⟨h, e, hb, by omega, by omega⟩

theorem big_eq (l : List Int) : laws_big.f l = some (decide (1048576 < l.length)) := by
  unfold laws_big.f
  congr 1
  simp
  omega

theorem long_loop (n c : Int) : ∀ (d i k : Nat) (x : List Int), (i : Int) + d = n → n ≤ 100000 → d < k → (x.length : Int) = n → ∃ r, spec_l01Long.l0 k n c x (i : Int) = some r ∧ (r.size : Int) = n := by
  intro d
  induction d with
  | zero =>
    intro i k x hi hn hk hx
    obtain ⟨k, rfl⟩ : ∃ m, k = m + 1 := ⟨k - 1, by omega⟩
    simp only [spec_l01Long.l0]
    rw [if_neg (by omega)]
    exact ⟨_, rfl, by rw [strOfNums_size]; exact hx⟩
  | succ d ih =>
    intro i k x hi hn hk hx
    obtain ⟨k, rfl⟩ : ∃ m, k = m + 1 := ⟨k - 1, by omega⟩
    simp only [spec_l01Long.l0]
    rw [if_pos (by omega), if_pos (by omega), if_pos (by omega), w64s (by omega)]
    exact ih (i + 1) k _ (by omega) hn (by omega) (by simpa using hx)
theorem long_ok (x c : Int) (k : Nat) (h0 : 0 ≤ x) (h1 : x ≤ 1000) (hk : 1100 < k) : ∃ r, spec_l01Long.f k x c = some r ∧ (r.size : Int) = x := by
  unfold spec_l01Long.f
  rw [if_pos h0, if_pos (by omega)]
  obtain ⟨r, e3, s3⟩ := long_loop x c x.toNat 0 k (List.replicate x.toNat 0) (by omega) (by omega) (by omega) (by simp; omega)
  rw [show ((0 : Nat) : Int) = 0 from rfl] at e3
  exact ⟨r, e3, s3⟩
theorem pick_ok {b : List Int} {i h : Int} (c : Cur b i) : ∃ r i' h', spec_l01Pick.f b i h [(⟨#[32]⟩ : ByteArray), (⟨#[32, 32]⟩ : ByteArray), (⟨#[9]⟩ : ByteArray), (⟨#[10]⟩ : ByteArray), (⟨#[127]⟩ : ByteArray), (⟨#[233]⟩ : ByteArray)] = some (r, i', h') ∧ r.size ≤ 2 := by
  unfold spec_l01Pick.f
  obtain ⟨v, i3, h3, e3, c3, b3, b4⟩ := below_ok (h := h) c (show (0 : Int) < (6 : Int) by omega)
  rw [show (([(⟨#[32]⟩ : ByteArray), (⟨#[32, 32]⟩ : ByteArray), (⟨#[9]⟩ : ByteArray), (⟨#[10]⟩ : ByteArray), (⟨#[127]⟩ : ByteArray), (⟨#[233]⟩ : ByteArray)].length : Nat) : Int) = 6 from rfl, e3]
  simp only [Option.bind_some]
  rw [if_pos b3, if_pos b4]
  refine ⟨_, _, _, rfl, ?_⟩
  have hv : v = 0 ∨ v = 1 ∨ v = 2 ∨ v = 3 ∨ v = 4 ∨ v = 5 := by omega
  rcases hv with rfl | rfl | rfl | rfl | rfl | rfl <;> decide
theorem tail_ok (b : List Int) (n : Int) (s : ByteArray) (hs : s.size ≤ 1000) (i : Int) (hi : ¬ i < n) (ci ch : Int) (c : Cur b ci) (k : Nat) (hk : 1200 < k) : ∃ r, spec_DrawSplitFields.l0 k n s i b ci ch = some r := by
  obtain ⟨k, rfl⟩ : ∃ m, k = m + 1 := ⟨k - 1, by omega⟩
  simp only [spec_DrawSplitFields.l0]
  rw [if_neg hi]
  obtain ⟨v, i1, h1, e1, c1, b1, b2⟩ := below_ok (h := ch) c (show (0 : Int) < 12 by omega)
  rw [e1]
  simp only [Option.bind_some]
  by_cases q0 : v = 0
  · rw [if_pos q0]
    obtain ⟨r, i2, h2, e2, s2⟩ := pick_ok (h := h1) c1
    rw [e2]
    simp only [Option.bind_some]
    rw [if_pos (by omega)]
    exact ⟨_, rfl⟩
  · rw [if_neg q0]
    by_cases q1 : v = 1
    · rw [if_pos q1]
      by_cases q2 : (s.size : Int) < 600
      · rw [if_pos q2]
        obtain ⟨u, i2, h2, e2, c2, b3, b4⟩ := below_ok (h := h1) c1 (show (0 : Int) < 2 by omega)
        rw [e2]
        simp only [Option.bind_some]
        rw [wrap64_id (x := 600 - (s.size : Int)) (by omega) (by omega), wrap64_id (by omega) (by omega)]
        obtain ⟨r, e3, s3⟩ := long_ok (600 - (s.size : Int) + u) 32 k (by omega) (by omega) (by omega)
        rw [e3]
        simp only [Option.bind_some]
        rw [if_pos (by omega)]
        exact ⟨_, rfl⟩
      · rw [if_neg q2]; exact ⟨_, rfl⟩
    · rw [if_neg q1]; exact ⟨_, rfl⟩
theorem inner_ok (b : List Int) (n : Int) (i K S : Nat) (hi : i ≤ 100) (hS : S ≤ 2000) (hP : ∀ (s : ByteArray) (ci ch : Int) (k : Nat), Cur b ci → s.size ≤ S → K ≤ k → ∃ r, spec_DrawSplitFields.l0 k n s ((i + 1 : Nat) : Int) b ci ch = some r) :
    ∀ (e j k : Nat) (s : ByteArray) (ci ch : Int), j + e = 5 → Cur b ci → s.size + e ≤ S → K + e + 1 ≤ k → ∃ r, spec_DrawSplitFields.l1 k n s (i : Int) (j : Int) b ci ch = some r := by
  intro e
  induction e with
  | zero =>
    intro j k s ci ch hj c hs hk
    obtain ⟨k, rfl⟩ : ∃ m, k = m + 1 := ⟨k - 1, by omega⟩
    simp only [spec_DrawSplitFields.l1]
    obtain ⟨v, i1, h1, e1, c1, b1, b2⟩ := below_ok (h := ch) c (show (0 : Int) < 5 by omega)
    rw [e1]
    simp only [Option.bind_some]
    rw [if_neg (by omega), w64s (by omega)]
    exact hP s i1 h1 k c1 (by omega) (by omega)
  | succ e ih =>
    intro j k s ci ch hj c hs hk
    obtain ⟨k, rfl⟩ : ∃ m, k = m + 1 := ⟨k - 1, by omega⟩
    simp only [spec_DrawSplitFields.l1]
    obtain ⟨v, i1, h1, e1, c1, b1, b2⟩ := below_ok (h := ch) c (show (0 : Int) < 5 by omega)
    rw [e1]
    simp only [Option.bind_some]
    by_cases q : (j : Int) ≤ v
    · rw [if_pos q]
      obtain ⟨u, i2, h2, e2, c2, b3, b4⟩ := below_ok (h := h1) c1 (show (0 : Int) < 94 by omega)
      rw [e2]
      simp only [Option.bind_some]
      have hz : ∀ x : Int, (strOfNums [x]).size = 1 := fun x => by rw [strOfNums_size]; rfl
      rw [if_pos (by rw [hz]; omega), w64s (by omega)]
      exact ih (j + 1) k _ i2 h2 (by omega) c2 (by rw [ByteArray.size_append, hz]; omega) (by omega)
    · rw [if_neg q, w64s (by omega)]
      exact hP s i1 h1 k c1 (by omega) (by omega)
theorem outer_ok (b : List Int) (n : Nat) (hn : n ≤ 30) : ∀ (d i k : Nat) (s : ByteArray) (ci ch : Int), i + d = n → Cur b ci → s.size ≤ 10 * i → 20 * d + 2000 ≤ k → ∃ r, spec_DrawSplitFields.l0 k (n : Int) s (i : Int) b ci ch = some r := by
  intro d
  induction d with
  | zero =>
    intro i k s ci ch hi c hs hk
    exact tail_ok b n s (by omega) i (by omega) ci ch c k (by omega)
  | succ d ih =>
    intro i k s ci ch hi c hs hk
    obtain ⟨k, rfl⟩ : ∃ m, k = m + 3 := ⟨k - 3, by omega⟩
    have inner : ∀ (s : ByteArray) (ci ch : Int), Cur b ci → s.size ≤ 10 * i + 4 → ∃ r, spec_DrawSplitFields.l1 k (n : Int) s (i : Int) 0 b ci ch = some r := by
      intro s ci ch c hs
      exact inner_ok b n i (20 * d + 2000) (10 * (i + 1)) (by omega) (by omega) (fun s ci ch k c hs hk => ih (i + 1) k s ci ch (by omega) c hs hk) 5 0 k s ci ch (by omega) c (by omega) (by omega)
    have j2ok : ∀ (r : Bool) (ci ch : Int), Cur b ci → ∃ t, spec_DrawSplitFields.j2 (k + 2) (n : Int) s (i : Int) r b ci ch = some t := by
      intro r ci ch c
      simp only [spec_DrawSplitFields.j2, spec_DrawSplitFields.j3]
      by_cases q : r = true
      · rw [if_pos q]
        obtain ⟨v, i1, h1, e1, c1, b1, b2⟩ := below_ok (h := ch) c (show (0 : Int) < 2 by omega)
        rw [e1]
        simp only [Option.bind_some]
        obtain ⟨u, i2, h2, e2, c2, b3, b4⟩ := below_ok (h := h1) c1 (show (0 : Int) < 3 by omega)
        rw [e2]
        simp only [Option.bind_some]
        have hvu : 0 ≤ v * u ∧ v * u ≤ 2 := by
          have hv : v = 0 ∨ v = 1 := by omega
          rcases hv with rfl | rfl <;> omega
        generalize v * u = p at hvu
        rw [wrap64_id (x := p) (by omega) (by omega), wrap64_id (by omega) (by omega)]
        obtain ⟨t, e3, s3⟩ := long_ok (1 + p) 32 (k + 1) (by omega) (by omega) (by omega)
        rw [e3]
        simp only [Option.bind_some]
        rw [if_pos (by omega)]
        exact inner _ i2 h2 c2 (by rw [ByteArray.size_append]; omega)
      · rw [if_neg q]
        exact inner s ci ch c (by omega)
    have e0 : spec_DrawSplitFields.l0 (k + 3) (n : Int) s (i : Int) b ci ch = (if (i : Int) > 0 then (spec_DrawSplitFields.j2 (k + 2) (n : Int) s (i : Int) true b ci ch) else ((spec_l01Once.f b ci ch 5).bind fun bt160 => (spec_DrawSplitFields.j2 (k + 2) (n : Int) s (i : Int) bt160.1 b bt160.2.1 bt160.2.2))) := by
      rw [spec_DrawSplitFields.l0, if_pos (by omega)]
    rw [e0]
    by_cases q : (i : Int) > 0
    · rw [if_pos q]; exact j2ok true ci ch c
    · rw [if_neg q]
      obtain ⟨r, i1, h1, e1, c1⟩ := once_ok (h := ch) c (show (0 : Int) < 5 by omega)
      rw [e1]
      simp only [Option.bind_some]
      exact j2ok r i1 h1 c1
theorem draw_ok (b : List Int) (k : Nat) (hb : b.length ≤ 1048576) (hk : 6000 < k) : ∃ s, spec_DrawSplitFields.f k b = some s := by
  unfold spec_DrawSplitFields.f
  obtain ⟨h0, e0, c0⟩ := new_ok b k hb (by omega)
  rw [e0]
  simp only [Option.bind_some]
  obtain ⟨v, i1, h1, e1, c1, b1, b2⟩ := below_ok (h := h0) c0 (show (0 : Int) < 9 by omega)
  rw [e1]
  simp only [Option.bind_some]
  obtain ⟨r, i2, h2, e2, c2⟩ := once_ok (h := h1) c1 (show (0 : Int) < 15 by omega)
  rw [e2]
  simp only [Option.bind_some]
  obtain ⟨k, rfl⟩ : ∃ m, k = m + 1 := ⟨k - 1, by omega⟩
  have go : ∀ (x ci ch : Int), 0 ≤ x → x ≤ 30 → Cur b ci → ∃ s, spec_DrawSplitFields.j0 (k + 1) x b ci ch = some s := by
    intro x ci ch h0 h1 c
    simp only [spec_DrawSplitFields.j0]
    have z := outer_ok b x.toNat (by omega) x.toNat 0 k (⟨#[]⟩ : ByteArray) ci ch (by omega) c (by decide) (by omega)
    rw [show ((x.toNat : Nat) : Int) = x by omega] at z
    exact z
  by_cases z : r = true
  · rw [if_pos z]
    obtain ⟨u, i3, h3, e3, c3, b3, b4⟩ := below_ok (h := h2) c2 (show (0 : Int) < 2 by omega)
    rw [e3]
    simp only [Option.bind_some]
    rw [wrap64_id (by omega) (by omega)]
    exact go _ i3 h3 (by omega) (by omega) c3
  · rw [if_neg z]
    exact go _ i2 h2 (by omega) (by omega) c2
theorem same_loop (l : List ByteArray) (hl : l.length ≤ 1000) : ∀ (d i k : Nat), i + d = l.length → d < k → laws_sameTexts.l0 k l l (i : Int) = some true := by
  intro d
  induction d with
  | zero =>
    intro i k hi hk
    obtain ⟨k, rfl⟩ : ∃ m, k = m + 1 := ⟨k - 1, by omega⟩
    simp only [laws_sameTexts.l0]
    rw [if_neg (by omega)]
  | succ d ih =>
    intro i k hi hk
    obtain ⟨k, rfl⟩ : ∃ m, k = m + 1 := ⟨k - 1, by omega⟩
    simp only [laws_sameTexts.l0]
    rw [if_pos (by omega), if_pos (by omega), if_pos (by omega), w64s (by omega), ih (i + 1) k (by omega) (by omega)]
    simp
theorem same_eq (l : List ByteArray) (hl : l.length ≤ 1000) (k : Nat) (hk : 2000 < k) : laws_sameTexts.f k l l = some true := by
  unfold laws_sameTexts.f
  rw [if_pos rfl]
  exact same_loop l hl l.length 0 k (by omega) (by omega)
theorem bs_app (a b : List UInt8) : bs a ++ bs b = bs (a ++ b) := by
  apply ByteArray.ext
  simp [bs]
theorem bs_size (a : List UInt8) : (bs a).size = a.length := by simp [bs, ByteArray.size]
theorem bs_data (a : List UInt8) : (bs a).data.toList = a := rfl
theorem res_yes {l : List UInt8} (h1 : l.length ≤ 600) (h2 : l.all okB = true) (h3 : (fields l).length ≤ 24) : res (bs l) = ((fields l).map bs, true) := by
  unfold res
  rw [bs_data, if_pos ⟨h1, h2, h3⟩]
theorem join_take (F : List (List UInt8)) (i : Nat) (x : List UInt8) (h : F[i]? = some x) : join (F.take (i + 1)) = join (F.take i) ++ x ++ [32] := by
  rw [List.take_add_one, h]
  exact join_snoc _ _
theorem again_loop (F : List (List UInt8)) (hF : F.length ≤ 24) (hx : ∀ x ∈ F, x.length ≤ 600) (hR : ∀ k, 3000 < k → ∃ r, impl_SplitFields.f k (bs (join F)) = some r ∧ ((join F).length ≤ 600 → r = (F.map bs, true))) :
    ∀ (d i k : Nat), i + d = F.length → d + 4000 < k → laws_FnFieldsAgain.l0 k (F.map bs) true (bs (join (F.take i))) (i : Int) = some true := by
  have hlen : (F.map bs).length = F.length := List.length_map _
  intro d
  induction d with
  | zero =>
    intro i k hi hk
    obtain ⟨k, rfl⟩ : ∃ m, k = m + 1 := ⟨k - 1, by omega⟩
    have e : F.take i = F := List.take_of_length_le (by omega)
    obtain ⟨r, e1, e2⟩ := hR k (by omega)
    simp only [laws_FnFieldsAgain.l0]
    rw [if_neg (by omega), e, e1]
    simp only [Option.bind_some, if_true]
    by_cases q : (join F).length ≤ 600
    · rw [if_neg (by rw [bs_size]; omega), e2 q]
      simp only [if_true]
      rw [same_eq _ (by omega) k (by omega)]
      rfl
    · rw [if_pos (by rw [bs_size]; omega)]
  | succ d ih =>
    intro i k hi hk
    obtain ⟨k, rfl⟩ : ∃ m, k = m + 1 := ⟨k - 1, by omega⟩
    have hil : i < F.length := by omega
    obtain ⟨x, hx1⟩ : ∃ x, F[i] = x := ⟨_, rfl⟩
    have hg : F[i]? = some x := by rw [List.getElem?_eq_getElem hil, hx1]
    have hr : rdOf ByteArray.empty (F.map bs) (i : Int) = bs x := by
      unfold rdOf
      simp [List.getD, hg]
    have hjl : ∀ j, (join (F.take j)).length ≤ 601 * j := by
      intro j
      induction j with
      | zero => simp [join]
      | succ j ihj =>
        by_cases q : j < F.length
        · have hgj : F[j]? = some F[j] := List.getElem?_eq_getElem q
          rw [join_take F j _ hgj]
          have := hx _ (List.getElem_mem q)
          simp
          omega
        · rw [List.take_of_length_le (by omega)]
          rw [List.take_of_length_le (by omega)] at ihj
          omega
    have h1 := hjl i
    have h2 := hx x (List.mem_of_getElem? hg)
    simp only [laws_FnFieldsAgain.l0]
    rw [if_pos (by omega), if_pos (by omega), hr, if_pos (by rw [bs_size, bs_size]; omega), if_pos (by rw [ByteArray.size_append, bs_size, bs_size]; omega), w64s (by omega)]
    have e : (bs (join (F.take i)) ++ bs x) ++ (⟨#[32]⟩ : ByteArray) = bs (join (F.take (i + 1))) := by
      rw [show (⟨#[32]⟩ : ByteArray) = bs [32] from rfl, bs_app, bs_app, join_take F i x hg]
    rw [e]
    exact ih (i + 1) k (by omega) (by omega)
theorem minus3 : (impl_FormatInt.f (-3)).bind (fun t => some (t.toList == ([45, 51] : List UInt8))) = some true := by decide +kernel
end Go.Proofs.YtajmccnilhambaaDoor.PureFA
namespace Go.Proofs.YtajmccnilhambaaDoor.Pure
open Go.RowKit Go.Lib Go.Proofs.YtajmccnilhambaaDoor.XA Go.Proofs.YtajmccnilhambaaDoor.PureSF Go.Proofs.YtajmccnilhambaaDoor.PureFA Go.Proofs.YtajmccnilhambaaDoorW.PrintWords Go.Proofs.YtajmccnilhambaaDoorW.PrintLast
theorem FnFieldsAgain : laws_FnFieldsAgain.Pure := by
  intro l _ _ _
  obtain ⟨k, hk⟩ : ∃ k : Nat, 3000000 ≤ k := ⟨_, Nat.le_refl _⟩
  refine ⟨k, ?_⟩
  unfold laws_FnFieldsAgain.f
  rw [big_eq]
  simp only [Option.bind_some]
  by_cases hb : 1048576 < l.length
  · rw [if_pos (decide_eq_true hb)]
  · rw [if_neg (by simpa using hb)]
    obtain ⟨s, hs⟩ := draw_ok l k (by omega) (by omega)
    rw [hs]
    simp only [Option.bind_some]
    rw [impl_eq s k (by omega), spec_eq s k (by omega)]
    simp only [Option.bind_some]
    by_cases c : s.data.toList.length ≤ 600 ∧ s.data.toList.all okB = true ∧ (fields s.data.toList).length ≤ 24
    · have hr : res s = ((fields s.data.toList).map bs, true) := by unfold res; rw [if_pos c]
      rw [hr]
      simp only [if_true]
      have hsp : PureSF.split s.data.toList = some (fields s.data.toList) := by unfold PureSF.split; rw [if_pos c]
      have z := again_loop (fields s.data.toList) c.2.2 (fun x hx => Nat.le_trans (field_len _ x hx) c.1) (fun k hk => ⟨_, impl_eq _ k (by omega), fun hl => by
        have h2 := split_again _ _ hsp hl
        unfold PureSF.split at h2
        by_cases q : (join (fields s.data.toList)).length ≤ 600 ∧ (join (fields s.data.toList)).all okB = true ∧ (fields (join (fields s.data.toList))).length ≤ 24
        · rw [if_pos q] at h2
          rw [res_yes q.1 q.2.1 q.2.2, Option.some.inj h2]
        · rw [if_neg q] at h2; cases h2⟩) (fields s.data.toList).length 0 k (by omega) (by omega)
      exact z
    · have hr : res s = ([], false) := by unfold res; rw [if_neg c]
      rw [hr]
      simp only [Bool.false_eq_true, if_false, List.length_nil]
      rw [if_pos (by rfl)]
      exact minus3
end Go.Proofs.YtajmccnilhambaaDoor.Pure
