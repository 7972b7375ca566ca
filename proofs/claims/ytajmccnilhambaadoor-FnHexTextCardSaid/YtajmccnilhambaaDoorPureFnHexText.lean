/- What is proved: the statement FnHexText, in its pure form, over numbers and lists: a text's hexadecimal form leads back to the text, for every draw (no conditions). -/
import Derived.Test.YtajmccnilhambaaDoorXH2
import Derived.Test.YtajmccnilhambaaDoorModel
set_option linter.unusedVariables false
set_option linter.unusedSimpArgs false
namespace Go.Proofs.YtajmccnilhambaaDoor.Pure
open Go.RowKit Go.Proofs.YtajmccnilhambaaDoor.XH Go.Proofs.YtajmccnilhambaaDoor.M Go.Proofs.YtajmccnilhambaaDoorW.PrintWords Go.Proofs.YtajmccnilhambaaDoorW.PrintLast
theorem rd_nat (l : List Int) (i : Nat) (h : i < l.length) : rd l (i : Int) = l[i] := by unfold rd; simp [h]
theorem drop_rd (l : List Int) (i : Nat) (h : i < l.length) : l.drop i = rd l (i : Int) :: l.drop (i + 1) := by
  rw [rd_nat l i h]; exact List.drop_eq_getElem_cons h
theorem w64s {i : Nat} (h : i ≤ 9223372036854775806) : wrap64 ((i : Int) + 1) = ((i + 1 : Nat) : Int) := by rw [wrap64_id (by omega) (by omega)]; omega
theorem w64p {i : Nat} (h : i ≤ 9223372036854775806) (h0 : 0 < i) : wrap64 ((i : Int) - 1) = ((i - 1 : Nat) : Int) := by rw [wrap64_id (by omega) (by omega)]; omega

theorem i64_and255 (n : Int) : bits .and .i64 n 255 = n % 256 := by
  have h : (BitVec.ofInt 64 255).toNat = 2 ^ 8 - 1 := by decide
  have key : (BitVec.ofInt 64 n &&& BitVec.ofInt 64 255).toNat = (n % ((2 ^ 64 : Nat) : Int)).toNat % 2 ^ 8 := by
    rw [BitVec.toNat_and, BitVec.toNat_ofInt, h, Nat.and_two_pow_sub_one_eq_mod]
  show IntKind.i64.wrap ((BitVec.ofInt 64 n &&& BitVec.ofInt 64 255).toNat : Nat) = n % 256
  rw [key, IntKind.wrap_i64]
  omega
/-- the cursor: a place in the bytes -/
def Cur (b : List Int) (i : Int) : Prop := b.length ≤ 1048576 ∧ 0 ≤ i ∧ i ≤ b.length
theorem byte_ok {b : List Int} {i h : Int} (c : Cur b i) : ∃ r i' h', spec_l01Byte.f b i h = some (r, i', h') ∧ Cur b i' ∧ 0 ≤ r ∧ r ≤ 255 := by
  obtain ⟨c0, c1, c2⟩ := c
  unfold spec_l01Byte.f
  by_cases q : i < (b.length : Int)
  · rw [if_pos q, if_pos c1]
    refine ⟨_, _, _, rfl, ⟨c0, ?_, ?_⟩, ?_, ?_⟩
    · rw [wrap64_id (by omega) (by omega)]; omega
    · rw [wrap64_id (by omega) (by omega)]; omega
    · rw [i64_and255]; omega
    · rw [i64_and255]; omega
  · rw [if_neg q]
    refine ⟨_, _, _, rfl, ⟨c0, c1, c2⟩, ?_, ?_⟩
    · rw [i64_and255]; omega
    · rw [i64_and255]; omega

theorem below_ok {b : List Int} {i h n : Int} (c : Cur b i) (hn : 0 < n) : ∃ r i' h', spec_l01Below.f b i h n = some (r, i', h') ∧ Cur b i' ∧ 0 ≤ r ∧ r < n := by
  unfold spec_l01Below.f
  rw [if_neg (show ¬ n ≤ 0 by omega)]
  by_cases q : n ≤ 256
  · rw [if_pos q]
    obtain ⟨r, i', h', e, c', r0, r1⟩ := byte_ok (h := h) c
    rw [e]
    simp only [Option.bind_some]
    rw [if_neg (show ¬ n = 0 by omega), tmod_of r0]
    exact ⟨_, _, _, rfl, c', Int.emod_nonneg _ (by omega), Int.emod_lt_of_pos _ hn⟩
  · rw [if_neg q]
    obtain ⟨r1, i1, h1, e1, c1, a1, b1⟩ := byte_ok (h := h) c
    rw [e1]
    simp only [Option.bind_some]
    obtain ⟨r2, i2, h2, e2, c2, a2, b2⟩ := byte_ok (h := h1) c1
    rw [e2]
    simp only [Option.bind_some]
    obtain ⟨r3, i3, h3, e3, c3, a3, b3⟩ := byte_ok (h := h2) c2
    rw [e3]
    simp only [Option.bind_some]
    obtain ⟨r4, i4, h4, e4, c4, a4, b4⟩ := byte_ok (h := h3) c3
    rw [e4]
    simp only [Option.bind_some]
    rw [if_neg (show ¬ n = 0 by omega), wrap64_id (x := r1 * 16777216) (by omega) (by omega), wrap64_id (x := r2 * 65536) (by omega) (by omega), wrap64_id (x := r3 * 256) (by omega) (by omega), wrap64_id (x := r1 * 16777216 + r2 * 65536) (by omega) (by omega), wrap64_id (x := r1 * 16777216 + r2 * 65536 + r3 * 256) (by omega) (by omega), wrap64_id (by omega) (by omega), tmod_of (by omega)]
    exact ⟨_, _, _, rfl, c4, Int.emod_nonneg _ (by omega), Int.emod_lt_of_pos _ hn⟩
theorem below0_ok {b : List Int} {i h n : Int} (c : Cur b i) (hn : n ≤ 0) : spec_l01Below.f b i h n = some (0, i, h) := by
  unfold spec_l01Below.f
  rw [if_pos hn]

theorem once_ok {b : List Int} {i h n : Int} (c : Cur b i) (hn : 0 < n) : ∃ r i' h', spec_l01Once.f b i h n = some (r, i', h') ∧ Cur b i' := by
  unfold spec_l01Once.f
  obtain ⟨r, i', h', e, c', _, _⟩ := below_ok (h := h) c hn
  rw [e]
  exact ⟨_, _, _, rfl, c'⟩

theorem new_loop (b : List Int) : ∀ (d i k : Nat) (h : Int), i + d = 4000 → d < k → ∃ h', spec_l01New.l0 k b h (i : Int) = some (b, 0, h') := by
  intro d
  induction d with
  | zero =>
    intro i k h hi hk
    obtain ⟨k, rfl⟩ : ∃ m, k = m + 1 := ⟨k - 1, by omega⟩
    simp only [spec_l01New.l0]
    by_cases q : (i : Int) < (b.length : Int)
    · rw [if_pos q, if_neg (by omega)]; exact ⟨_, rfl⟩
    · rw [if_neg q]; exact ⟨_, rfl⟩
  | succ d ih =>
    intro i k h hi hk
    obtain ⟨k, rfl⟩ : ∃ m, k = m + 1 := ⟨k - 1, by omega⟩
    simp only [spec_l01New.l0]
    by_cases q : (i : Int) < (b.length : Int)
    · rw [if_pos q, if_pos (by omega), if_pos (by omega), w64s (by omega)]
      exact ih (i + 1) k _ (by omega) (by omega)
    · rw [if_neg q]; exact ⟨_, rfl⟩
theorem new_ok (b : List Int) (k : Nat) (hb : b.length ≤ 1048576) (hk : 4000 < k) : ∃ h, spec_l01New.f k b = some (b, 0, h) ∧ Cur b 0 := by
  unfold spec_l01New.f
  obtain ⟨h, e⟩ := new_loop b 4000 0 k (wrap64 (98459 + (b.length : Int))) (by omega) (by omega)
  exact ⟨h, e, hb, by omega, by omega⟩

theorem big_eq (l : List Int) : laws_big.f l = some (decide (1048576 < l.length)) := by
  unfold laws_big.f
  congr 1
  simp
  omega

def stdG (w h r : Int) (i : Nat) : Int := stdP w r ((i / (cnt w h).toNat : Nat) : Int) ((i % (cnt w h).toNat : Nat) : Int)
def stdT (w h r : Int) : List Int := (List.range ((cnt w h).toNat * (cnt w h).toNat)).map (stdG w h r)
theorem stdT_len (w h r : Int) : (stdT w h r).length = (cnt w h).toNat * (cnt w h).toNat := by simp [stdT]
theorem cnt_sq (w h : Int) : (cnt w h).toNat * (cnt w h).toNat ≤ 256 ∧ (((cnt w h).toNat * (cnt w h).toNat : Nat) : Int) = cnt w h * cnt w h := by
  have b := cnt_bd w h
  obtain ⟨n, hn⟩ : ∃ n : Nat, cnt w h = n := ⟨(cnt w h).toNat, by omega⟩
  rw [hn] at b ⊢
  simp only [Int.toNat_natCast]
  refine ⟨?_, by simp⟩
  have : n ≤ 16 := by omega
  exact Nat.mul_le_mul this this

def hexv (x : Int) : Int := if x < 10 then 48 + x else 87 + x
def encFrom (s : ByteArray) (i d : Nat) : List Int := (List.range' i d).flatMap fun (j : Nat) => [hexv (bt s (j : Int) / 16), hexv (bt s (j : Int) % 16)]
theorem encFrom_succ (s : ByteArray) (i d : Nat) : encFrom s i (d + 1) = [hexv (bt s (i : Int) / 16), hexv (bt s (i : Int) % 16)] ++ encFrom s (i + 1) d := by
  unfold encFrom; rw [List.range'_succ, List.flatMap_cons]
theorem encFrom_len (s : ByteArray) (i d : Nat) : (encFrom s i d).length = 2 * d := by
  induction d generalizing i with
  | zero => rfl
  | succ d ih => rw [encFrom_succ, List.length_append, ih]; simp; omega
theorem digits_bt (x : Int) (h0 : 0 ≤ x) (h1 : x < 16) : bt (⟨#[48, 49, 50, 51, 52, 53, 54, 55, 56, 57, 97, 98, 99, 100, 101, 102]⟩ : ByteArray) x = hexv x := by
  have h : x = 0 ∨ x = 1 ∨ x = 2 ∨ x = 3 ∨ x = 4 ∨ x = 5 ∨ x = 6 ∨ x = 7 ∨ x = 8 ∨ x = 9 ∨ x = 10 ∨ x = 11 ∨ x = 12 ∨ x = 13 ∨ x = 14 ∨ x = 15 := by omega
  rcases h with rfl | rfl | rfl | rfl | rfl | rfl | rfl | rfl | rfl | rfl | rfl | rfl | rfl | rfl | rfl | rfl <;> decide
theorem impl_EncodeHex_loop (s : ByteArray) (hs : s.size ≤ 1048576) : ∀ (d i k : Nat) (x : List Int), i + d = s.size → d < k → x.length ≤ 2 * i → impl_EncodeHex.l0 k s x (i : Int) = some (strOfNums (x ++ encFrom s i d), true) := by
  intro d
  induction d with
  | zero =>
    intro i k x hi hk hx
    obtain ⟨k, rfl⟩ : ∃ m, k = m + 1 := ⟨k - 1, by omega⟩
    simp only [impl_EncodeHex.l0]
    rw [if_neg (by omega)]
    simp [encFrom]
  | succ d ih =>
    intro i k x hi hk hx
    obtain ⟨k, rfl⟩ : ∃ m, k = m + 1 := ⟨k - 1, by omega⟩
    simp only [impl_EncodeHex.l0]
    have b := bt_range s (i : Int)
    have e15 : Go.bits .and .u8 (bt s (i : Int)) 15 = bt s (i : Int) % 16 := u8_and15 _ (by omega) (by omega)
    rw [if_pos (by omega), if_pos (by omega), e15, if_pos (by omega), if_pos (by omega), if_pos (by omega), if_pos (by omega), digits_bt _ (by omega) (by omega), digits_bt _ (by omega) (by omega), encFrom_succ]
    simp only [Option.bind_some]
    rw [if_pos (by simp; omega), w64s (by omega), ih (i + 1) k _ (by omega) (by omega) (by simp; omega)]
    simp
theorem impl_EncodeHex_eq (s : ByteArray) (k : Nat) (hs : s.size ≤ 1048576) (hk : 1048600 < k) : impl_EncodeHex.f k s = some (if 20000 < s.size then (⟨#[]⟩, false) else (strOfNums (encFrom s 0 s.size), true)) := by
  unfold impl_EncodeHex.f
  by_cases q : 20000 < s.size
  · rw [if_pos (by omega), if_pos q]
  · have e := impl_EncodeHex_loop s hs s.size 0 k [] (by omega) (by omega) (by simp)
    rw [if_neg (by omega), if_neg q, wrap64_id (by omega) (by omega), if_pos (by omega), if_pos (by omega), show (0 : Int) = ((0 : Nat) : Int) from rfl, e]
    rfl
def hval (c : Int) : Int := if 48 ≤ c ∧ c ≤ 57 then c - 48 else if 97 ≤ c ∧ c ≤ 102 then c - 87 else -1
theorem hval_bd (c : Int) : -1 ≤ hval c ∧ hval c ≤ 15 := by
  unfold hval
  split
  · omega
  · split <;> omega
theorem ival_all : ((List.range 256).all fun (j : Nat) => decide (strings_IndexByte.f (⟨#[48, 49, 50, 51, 52, 53, 54, 55, 56, 57, 97, 98, 99, 100, 101, 102]⟩ : ByteArray) (j : Int) = some (hval (j : Int)))) = true := by decide +kernel
theorem ival_eq (c : Int) (h0 : 0 ≤ c) (h1 : c ≤ 255) : strings_IndexByte.f (⟨#[48, 49, 50, 51, 52, 53, 54, 55, 56, 57, 97, 98, 99, 100, 101, 102]⟩ : ByteArray) c = some (hval c) := by
  have t := List.all_eq_true.1 ival_all c.toNat (List.mem_range.2 (by omega))
  have t := of_decide_eq_true t
  rwa [show ((c.toNat : Nat) : Int) = c by omega] at t
theorem hval_hexv (x : Int) (h0 : 0 ≤ x) (h1 : x < 16) : hval (hexv x) = x := by
  unfold hval hexv
  by_cases q : x < 10
  · rw [if_pos q, if_pos (by omega)]; omega
  · rw [if_neg q, if_neg (by omega), if_pos (by omega)]; omega
theorem hexv_bd (x : Int) (h0 : 0 ≤ x) (h1 : x < 16) : 0 ≤ hexv x ∧ hexv x ≤ 255 := by
  unfold hexv; split <;> omega
/-- the bytes of a text as numbers -/
def byt (s : ByteArray) (i d : Nat) : List Int := (List.range' i d).map fun (j : Nat) => bt s (j : Int)
theorem byt_all (s : ByteArray) : strOfNums (byt s 0 s.size) = s := by
  apply ByteArray.ext
  apply Array.ext
  · simp [strOfNums, byt]
  · intro i h1 h2
    have hi : i < s.size := h2
    simp only [strOfNums, byt, List.map_map, List.getElem_toArray, List.getElem_map, List.getElem_range', Function.comp]
    rw [show (0 + 1 * i : Nat) = i by omega, ← bt_at s (i : Int) (by simpa using hi)]
    simp
    rfl
theorem bt_str (xs : List Int) (i : Nat) (h : i < xs.length) (hx : 0 ≤ xs[i] ∧ xs[i] ≤ 255) : bt (strOfNums xs) (i : Int) = xs[i] := by
  rw [← bt_at (strOfNums xs) (i : Int) (by simpa [strOfNums_size] using h)]
  have e : (strOfNums xs)[(i : Int).toNat]'(by simpa [strOfNums_size] using h) = UInt8.ofNat (xs[i]).toNat := by
    show (strOfNums xs).data[i]'_ = _
    simp [strOfNums]
  rw [e]
  have : (UInt8.ofNat (xs[i]).toNat).toNat = (xs[i]).toNat := by
    rw [UInt8.toNat_ofNat']; omega
  omega
theorem enc_at (s : ByteArray) (n : Nat) : ∀ (d i j : Nat), j < d → ∃ h : 2 * j + 1 < (encFrom s i d).length, (encFrom s i d)[2 * j]'(by omega) = hexv (bt s ((i + j : Nat) : Int) / 16) ∧ (encFrom s i d)[2 * j + 1] = hexv (bt s ((i + j : Nat) : Int) % 16)
  | 0, i, j, h => absurd h (by omega)
  | d + 1, i, 0, _ => by
    refine ⟨by rw [encFrom_len]; omega, ?_, ?_⟩
    · simp [encFrom_succ]
    · simp [encFrom_succ]
  | d + 1, i, j + 1, h => by
    obtain ⟨_, e1, e2⟩ := enc_at s n d (i + 1) j (by omega)
    refine ⟨by rw [encFrom_len]; omega, ?_, ?_⟩
    · rw [show i + (j + 1) = i + 1 + j by omega, ← e1]
      simp only [encFrom_succ, show 2 * (j + 1) = 2 * j + 1 + 1 by omega]
      rfl
    · rw [show i + (j + 1) = i + 1 + j by omega, ← e2]
      simp only [encFrom_succ, show 2 * (j + 1) + 1 = 2 * j + 1 + 1 + 1 by omega]
      rfl
theorem dec_loop (s : ByteArray) (hs : s.size ≤ 20000) : ∀ (d i k : Nat), i + d = s.size → d < k → impl_DecodeHex.l0 k (strOfNums (encFrom s 0 s.size)) (byt s 0 i) ((2 * i : Nat) : Int) = some (s, true) := by
  have sz : (strOfNums (encFrom s 0 s.size)).size = 2 * s.size := by rw [strOfNums_size, encFrom_len]
  intro d
  induction d with
  | zero =>
    intro i k hi hk
    obtain ⟨k, rfl⟩ : ∃ m, k = m + 1 := ⟨k - 1, by omega⟩
    simp only [impl_DecodeHex.l0]
    rw [if_neg (by omega), show i = s.size by omega, byt_all]
  | succ d ih =>
    intro i k hi hk
    obtain ⟨k, rfl⟩ : ∃ m, k = m + 1 := ⟨k - 1, by omega⟩
    obtain ⟨hl, e1, e2⟩ := enc_at s 0 s.size 0 i (by omega)
    rw [Nat.zero_add] at e1 e2
    have b := bt_range s (i : Int)
    have x1 := hexv_bd (bt s (i : Int) / 16) (by omega) (by omega)
    have x2 := hexv_bd (bt s (i : Int) % 16) (by omega) (by omega)
    have f1 : bt (strOfNums (encFrom s 0 s.size)) ((2 * i : Nat) : Int) = hexv (bt s (i : Int) / 16) := by
      rw [bt_str _ (2 * i) (by omega) (by rw [e1]; exact x1), e1]
    have f2 : bt (strOfNums (encFrom s 0 s.size)) ((2 * i + 1 : Nat) : Int) = hexv (bt s (i : Int) % 16) := by
      rw [bt_str _ (2 * i + 1) hl (by rw [e2]; exact x2), e2]
    have w2 : wrap64 (((2 * i : Nat) : Int) + 2) = ((2 * (i + 1) : Nat) : Int) := by rw [wrap64_id (by omega) (by omega)]; omega
    simp only [impl_DecodeHex.l0]
    rw [w64s (by omega), if_pos (by omega), if_pos (by omega), f1, ival_eq _ x1.1 x1.2]
    simp only [Option.bind_some]
    rw [if_pos (by omega), if_pos (by omega), f2, ival_eq _ x2.1 x2.2]
    simp only [Option.bind_some]
    rw [hval_hexv _ (by omega) (by omega), hval_hexv _ (by omega) (by omega), if_neg (by omega), if_neg (by omega), if_pos (by simp [byt]; omega), w2, wrap64_id (x := 16 * (bt s (i : Int) / 16)) (by omega) (by omega), wrap64_id (by omega) (by omega)]
    have e : byt s 0 i ++ [(16 * (bt s (i : Int) / 16) + bt s (i : Int) % 16) % 256] = byt s 0 (i + 1) := by
      rw [show (16 * (bt s (i : Int) / 16) + bt s (i : Int) % 16) % 256 = bt s (i : Int) by omega]
      unfold byt
      rw [List.range'_concat]
      simp
    rw [e]
    exact ih (i + 1) k (by omega) (by omega)
theorem long_loop (n c : Int) : ∀ (d i k : Nat) (x : List Int), (i : Int) + d = n → n ≤ 100000 → d < k → (x.length : Int) = n → ∃ r, spec_l01Long.l0 k n c x (i : Int) = some r ∧ (r.size : Int) = n := by
  intro d
  induction d with
  | zero =>
    intro i k x hi hn hk hx
    obtain ⟨k, rfl⟩ : ∃ m, k = m + 1 := ⟨k - 1, by omega⟩
    simp only [spec_l01Long.l0]
    rw [if_neg (by omega)]
    exact ⟨_, rfl, by rw [strOfNums_size]; exact hx⟩
  | succ d ih =>
    intro i k x hi hn hk hx
    obtain ⟨k, rfl⟩ : ∃ m, k = m + 1 := ⟨k - 1, by omega⟩
    simp only [spec_l01Long.l0]
    rw [if_pos (by omega), if_pos (by omega), if_pos (by omega), w64s (by omega)]
    exact ih (i + 1) k _ (by omega) hn (by omega) (by simpa using hx)
theorem text_loop (b : List Int) (n : Int) : ∀ (d i k : Nat) (x : List Int) (ci ch : Int), (n ≤ (i : Int) + d) → i + d ≤ 10000 → d < k → x.length = i → Cur b ci → ∃ r, spec_l01Text.l0 k n x (i : Int) b ci ch = some r ∧ r.1.size ≤ 10000 := by
  intro d
  induction d with
  | zero =>
    intro i k x ci ch hi hn hk hx c
    obtain ⟨k, rfl⟩ : ∃ m, k = m + 1 := ⟨k - 1, by omega⟩
    simp only [spec_l01Text.l0]
    rw [if_neg (by omega)]
    exact ⟨_, rfl, by simp only [strOfNums_size]; omega⟩
  | succ d ih =>
    intro i k x ci ch hi hn hk hx c
    obtain ⟨k, rfl⟩ : ∃ m, k = m + 1 := ⟨k - 1, by omega⟩
    simp only [spec_l01Text.l0]
    by_cases q : (i : Int) < n
    · obtain ⟨v, i1, h1, e1, c1, _⟩ := byte_ok (h := ch) c
      rw [if_pos q, e1]
      simp only [Option.bind_some]
      rw [if_pos (by omega), w64s (by omega)]
      exact ih (i + 1) k _ i1 h1 (by omega) (by omega) (by omega) (by simp; omega) c1
    · rw [if_neg q]
      exact ⟨_, rfl, by simp only [strOfNums_size]; omega⟩
theorem drawEnc_ok (b : List Int) (k : Nat) (hb : b.length ≤ 1048576) (hk : 200000 < k) : ∃ s, spec_DrawEncodeHex.f k b = some s ∧ s.size ≤ 30000 := by
  unfold spec_DrawEncodeHex.f
  obtain ⟨h0, e0, c0⟩ := new_ok b k hb (by omega)
  rw [e0]
  simp only [Option.bind_some]
  obtain ⟨r, i1, h1, e1, c1⟩ := once_ok (h := h0) c0 (show (0 : Int) < 60 by omega)
  rw [e1]
  simp only [Option.bind_some]
  by_cases z : r = true
  · rw [if_pos z]
    obtain ⟨v, i2, h2, e2, c2, b2⟩ := below_ok (h := h1) c1 (show (0 : Int) < 2 by omega)
    rw [e2]
    simp only [Option.bind_some]
    rw [wrap64_id (by omega) (by omega)]
    unfold spec_l01Long.f
    rw [if_pos (by omega), if_pos (by omega)]
    obtain ⟨r, e3, s3⟩ := long_loop (20000 + v) 200 (20000 + v).toNat 0 k (List.replicate (20000 + v).toNat 0) (by omega) (by omega) (by omega) (by simp; omega)
    rw [show ((0 : Nat) : Int) = 0 from rfl] at e3
    rw [e3]
    exact ⟨r, rfl, by omega⟩
  · rw [if_neg z]
    obtain ⟨v, i2, h2, e2, c2, b2⟩ := below_ok (h := h1) c1 (show (0 : Int) < 30 by omega)
    rw [e2]
    simp only [Option.bind_some]
    unfold spec_l01Text.f
    obtain ⟨k, rfl⟩ : ∃ m, k = m + 1 := ⟨k - 1, by omega⟩
    rw [if_neg (by omega)]
    simp only [spec_l01Text.j0]
    obtain ⟨r, e3, s3⟩ := text_loop b v 100 0 k [] i2 h2 (by omega) (by omega) (by omega) (by simp) c2
    rw [show ((0 : Nat) : Int) = 0 from rfl] at e3
    rw [e3]
    exact ⟨r.1, rfl, by omega⟩
theorem ten : (impl_FormatInt.f 10).map (fun t => t.toList == ([49, 48] : List UInt8)) = some true := by decide +kernel
theorem FnHexText : laws_FnHexText.Pure := by
  intro l _ _ _
  obtain ⟨k, hk⟩ : ∃ k : Nat, 3000000 ≤ k := ⟨_, Nat.le_refl _⟩
  refine ⟨k + 1, ?_⟩
  unfold laws_FnHexText.f
  rw [big_eq]
  simp only [Option.bind_some]
  by_cases hb : 1048576 < l.length
  · rw [if_pos (by simpa using hb)]
  rw [if_neg (by simpa using hb)]
  obtain ⟨s, e1, s1⟩ := drawEnc_ok l (k + 1) (by omega) (by omega)
  rw [e1]
  simp only [Option.bind_some]
  rw [impl_EncodeHex_eq s (k + 1) (by omega) (by omega)]
  simp only [Option.bind_some]
  by_cases c : 20000 < s.size
  · rw [if_pos c, if_pos (by omega)]
    have t := ten
    cases e : impl_FormatInt.f 10 with
    | none => rw [e] at t; cases t
    | some v =>
      rw [e] at t
      simp only [Option.map_some, Option.some.injEq] at t
      simp only [Option.bind_some, t]
      rw [if_neg (by simp), if_pos (by decide +kernel)]
  · rw [if_neg c, if_neg (by omega)]
    have sz : (strOfNums (encFrom s 0 s.size)).size = 2 * s.size := by rw [strOfNums_size, encFrom_len]
    have d := dec_loop s (by omega) s.size 0 k (by omega) (by omega)
    have e2 : impl_DecodeHex.f (k + 1) (strOfNums (encFrom s 0 s.size)) = some (s, true) := by
      unfold impl_DecodeHex.f
      simp only [impl_DecodeHex.j0]
      rw [if_pos (by omega), if_neg (by simp; omega), wrap64_id (by omega) (by omega), if_pos (by omega), if_pos (by omega)]
      exact d
    simp only [e2, Option.bind_some, if_true]
    rw [sz, wrap64_id (by omega) (by omega)]
    simp

end Go.Proofs.YtajmccnilhambaaDoor.Pure
