/- What is proved: the statement FnExactSplitFields, in its pure form: the program's and the reference's SplitFields agree at every string, and marks in the fields hold. -/
import Derived.Test.YtajmccnilhambaaDoorXS2
import Derived.Test.YtajmccnilhambaaDoorPureSF
set_option linter.unusedVariables false
set_option linter.unusedSimpArgs false
namespace Go.Proofs.YtajmccnilhambaaDoor.Pure
open Go.RowKit Go.Lib Go.Proofs.YtajmccnilhambaaDoor.XS Go.Proofs.YtajmccnilhambaaDoor.PureSF Go.Proofs.YtajmccnilhambaaDoorW.PrintWords Go.Proofs.YtajmccnilhambaaDoorW.PrintLast
theorem w64s {i : Nat} (h : i ≤ 9223372036854775806) : wrap64 ((i : Int) + 1) = ((i + 1 : Nat) : Int) := by unfold wrap64; omega
def bs (l : List UInt8) : ByteArray := ⟨l.toArray⟩
theorem bs_extract (s : ByteArray) (b i : Nat) : s.extract b i = bs ((s.data.toList.drop b).take (i - b)) := by
  apply ByteArray.ext
  rw [ByteArray.data_extract]
  apply Array.toList_inj.1
  rw [Array.toList_extract]
  simp [bs, List.extract]
theorem len_size (s : ByteArray) : s.data.toList.length = s.size := Array.length_toList
theorem bt_eq (s : ByteArray) (i : Nat) (h : i < s.data.toList.length) : bt s (i : Int) = ((s.data.toList[i]).toNat : Int) := by
  have h2 : i < s.size := by rw [← len_size]; exact h
  have z := bt_at s (i : Int) (by simpa using h2)
  rw [← z]
  simp
  rfl
theorem okB_cons (c : UInt8) (r : List UInt8) : ((c :: r).all okB = true) ↔ (okB c = true ∧ r.all okB = true) := by simp
/-- what both functions give -/
def res (s : ByteArray) : List ByteArray × Bool := if s.data.toList.length ≤ 600 ∧ s.data.toList.all okB = true ∧ (fields s.data.toList).length ≤ 24 then ((fields s.data.toList).map bs, true) else ([], false)
/-- the reference's loop from the place i on -/
def fin (out : List ByteArray) (cur r : List UInt8) : List ByteArray × Bool := if r.all okB = true ∧ out.length + (fieldsGo cur r).length ≤ 24 then (out ++ (fieldsGo cur r).map bs, true) else ([], false)
theorem spec_over (s : ByteArray) (out : List ByteArray) (b : Int) (i k : Nat) (hi : i = s.size + 1) (hk : 0 < k) : spec_SplitFields.l0 k s out b (i : Int) = some (if out.length ≤ 24 then (out, true) else ([], false)) := by
  obtain ⟨k, rfl⟩ : ∃ m, k = m + 1 := ⟨k - 1, by omega⟩
  simp only [spec_SplitFields.l0]
  rw [if_neg (by omega)]
  by_cases q : out.length ≤ 24
  · rw [if_neg (by omega), if_pos q]
  · rw [if_pos (by omega), if_neg q]
theorem spec_loop (s : ByteArray) (hs : s.size ≤ 600) : ∀ (d i b k : Nat) (out : List ByteArray), i + d = s.size → b ≤ i → 3 * d + 10 < k → out.length ≤ i → spec_SplitFields.l0 k s out (b : Int) (i : Int) = some (fin out ((s.data.toList.drop b).take (i - b)) (s.data.toList.drop i)) := by
  have hl := len_size s
  intro d
  induction d with
  | zero =>
    intro i b k out hi hb hk ho
    obtain ⟨k, rfl⟩ : ∃ m, k = m + 3 := ⟨k - 3, by omega⟩
    have hd : s.data.toList.drop i = [] := List.drop_eq_nil_of_le (by omega)
    simp only [spec_SplitFields.l0, spec_SplitFields.j1, spec_SplitFields.j2]
    rw [if_pos (by omega), if_neg (by omega), if_neg (by simp), if_neg (by omega), if_neg (by simp), hd]
    unfold fin
    by_cases q : b < i
    · have hne := piece_ne (l := s.data.toList) q (by omega)
      have hf : fieldsGo ((s.data.toList.drop b).take (i - b)) [] = [(s.data.toList.drop b).take (i - b)] := by
        simp only [fieldsGo]
        cases h : (s.data.toList.drop b).take (i - b) with
        | nil => exact absurd h hne
        | cons _ _ => rfl
      rw [if_pos (by omega), if_pos (by omega), if_pos (by omega), if_pos (by omega), if_pos (by omega), w64s (by omega), spec_over _ _ _ _ _ (by omega) (by omega), hf]
      simp only [Int.toNat_natCast, bs_extract]
      by_cases z : out.length + 1 ≤ 24
      · rw [if_pos (by simp; omega), if_pos ⟨by simp, by simp; omega⟩]
        simp
      · rw [if_neg (by simp; omega), if_neg (by simp; omega)]
    · have e : b = i := by omega
      have hc : (s.data.toList.drop b).take (i - b) = [] := by rw [e]; simp
      rw [if_neg (by omega), w64s (by omega), spec_over _ _ _ _ _ (by omega) (by omega), hc]
      simp only [fieldsGo, List.isEmpty_nil, if_true, List.length_nil, List.map_nil, List.append_nil]
      by_cases z : out.length ≤ 24
      · rw [if_pos z, if_pos ⟨by simp, by omega⟩]
      · rw [if_neg z, if_neg (by simp; omega)]
  | succ d ih =>
    intro i b k out hi hb hk ho
    obtain ⟨k, rfl⟩ : ∃ m, k = m + 3 := ⟨k - 3, by omega⟩
    have hil : i < s.data.toList.length := by omega
    obtain ⟨c, hc⟩ : ∃ c, s.data.toList[i] = c := ⟨_, rfl⟩
    have hg : s.data.toList[i]? = some c := by rw [List.getElem?_eq_getElem hil, hc]
    have hd := drop_at hg
    have hbt := bt_eq s i hil
    rw [hc] at hbt
    have hc256 := c.toNat_lt
    simp only [spec_SplitFields.l0, spec_SplitFields.j1, spec_SplitFields.j2]
    rw [if_pos (by omega), if_pos (by omega), if_pos (by omega), hbt, hd]
    by_cases ok : okB c = true
    · have okr := (okB_iff c).1 ok
      have hsp := isSp_ok c ok
      rw [if_neg (by omega), if_neg (show ¬ (decide ((c.toNat : Int) > 126) = true) by simp; omega), if_pos (by omega), if_pos (by omega)]
      have fin_step : ∀ (o : List ByteArray) (cu : List UInt8) (o' : List ByteArray) (cu' : List UInt8), o.length + (fieldsGo cu (c :: s.data.toList.drop (i + 1))).length = o'.length + (fieldsGo cu' (s.data.toList.drop (i + 1))).length → o ++ (fieldsGo cu (c :: s.data.toList.drop (i + 1))).map bs = o' ++ (fieldsGo cu' (s.data.toList.drop (i + 1))).map bs → fin o cu (c :: s.data.toList.drop (i + 1)) = fin o' cu' (s.data.toList.drop (i + 1)) := by
        intro o cu o' cu' h1 h2
        unfold fin
        simp only [okB_cons, ok, true_and]
        rw [h1, h2]
      by_cases sp : c.toNat = 32
      · have hs1 : isSp c = true := by rw [hsp]; exact decide_eq_true sp
        rw [if_neg (show ¬ (((c.toNat : Int) != 32) = true) by simp; omega)]
        by_cases q : b < i
        · have hne := piece_ne (l := s.data.toList) q (by omega)
          rw [if_pos (by omega), if_pos (by omega), if_pos (by omega), if_pos (by omega), if_pos (by omega), w64s (by omega), ih (i + 1) (i + 1) k _ (by omega) (by omega) (by omega) (by simp; omega)]
          simp only [Int.toNat_natCast, bs_extract]
          rw [Nat.sub_self, List.take_zero]
          congr 1
          symm
          refine fin_step _ _ _ _ ?_ ?_
          · rw [fieldsGo_end _ c _ hs1 hne]; simp; omega
          · rw [fieldsGo_end _ c _ hs1 hne]; simp
        · have e : b = i := by omega
          have hcur : (s.data.toList.drop b).take (i - b) = [] := by rw [e]; simp
          rw [if_neg (by omega), w64s (by omega), ih (i + 1) (i + 1) k _ (by omega) (by omega) (by omega) (by omega), hcur, Nat.sub_self, List.take_zero]
          congr 1
          symm
          refine fin_step _ _ _ _ ?_ ?_
          · rw [fieldsGo_sp c _ hs1]
          · rw [fieldsGo_sp c _ hs1]
      · have hs1 : isSp c = false := by rw [hsp]; exact decide_eq_false sp
        rw [if_pos (show (((c.toNat : Int) != 32) = true) by simp; omega), w64s (by omega), ih (i + 1) b k _ (by omega) (by omega) (by omega) (by omega), piece_more hb hg]
        congr 1
        symm
        refine fin_step _ _ _ _ ?_ ?_
        · rw [fieldsGo_more _ c _ hs1]
        · rw [fieldsGo_more _ c _ hs1]
    · have okr : ¬ (32 ≤ c.toNat ∧ c.toNat ≤ 126) := fun h => ok ((okB_iff c).2 h)
      have hf : ∀ cu, fin out cu (c :: s.data.toList.drop (i + 1)) = ([], false) := by
        intro cu
        unfold fin
        rw [if_neg (by rw [okB_cons]; intro h; exact ok h.1.1)]
      rw [hf]
      by_cases z : (c.toNat : Int) < 32
      · rw [if_pos z, if_pos trivial]
      · rw [if_neg z, if_pos (show (decide ((c.toNat : Int) > 126) = true) from decide_eq_true (by omega))]
theorem spec_eq (s : ByteArray) (k : Nat) (hk : 2000 < k) : spec_SplitFields.f k s = some (res s) := by
  have hl := len_size s
  unfold spec_SplitFields.f res
  simp only [Option.bind_some]
  by_cases q : s.size ≤ 600
  · rw [if_neg (by omega)]
    have e := spec_loop s q s.size 0 0 k [] (by omega) (by omega) (by omega) (by simp)
    rw [show ((0 : Nat) : Int) = 0 from rfl] at e
    rw [e]
    unfold fin fields
    simp only [List.drop_zero, Nat.sub_self, List.take_zero, List.length_nil, Nat.zero_add, List.nil_append]
    by_cases z : s.data.toList.all okB = true ∧ (fieldsGo [] s.data.toList).length ≤ 24
    · rw [if_pos z, if_pos ⟨by omega, z.1, z.2⟩]
    · rw [if_neg z, if_neg (fun h => z h.2)]
  · rw [if_pos (by omega), if_neg (by omega)]
theorem impl_end (s : ByteArray) (hs : s.size ≤ 600) (ha : s.data.toList.all okB = true) (k : Nat) (hk : 0 < k) : impl_SplitFields.l0 k s (s.size : Int) = some (res s) := by
  have hl := len_size s
  obtain ⟨k, rfl⟩ : ∃ m, k = m + 1 := ⟨k - 1, by omega⟩
  simp only [impl_SplitFields.l0]
  have ha2 : s.data.toList.all (fun b => decide (b.toNat < 128)) = true := by
    rw [List.all_eq_true] at ha ⊢
    intro b hb
    have := (okB_iff b).1 (ha b hb)
    exact decide_eq_true (by omega)
  rw [if_neg (by omega)]
  unfold strings_Fields.f
  rw [if_pos ⟨hs, ha2⟩]
  simp only [Option.bind_some, List.length_map]
  unfold res
  by_cases z : (fields s.data.toList).length ≤ 24
  · rw [if_neg (by omega), if_pos ⟨by omega, ha, z⟩]; rfl
  · rw [if_pos (by omega), if_neg (fun h => z h.2.2)]
theorem impl_loop (s : ByteArray) (hs : s.size ≤ 600) : ∀ (d i k : Nat), i + d = s.size → d < k → (s.data.toList.take i).all okB = true → impl_SplitFields.l0 k s (i : Int) = some (res s) := by
  have hl := len_size s
  intro d
  induction d with
  | zero =>
    intro i k hi hk ha
    have e : i = s.size := by omega
    subst e
    rw [← hl, List.take_length] at ha
    exact impl_end s hs ha k (by omega)
  | succ d ih =>
    intro i k hi hk ha
    obtain ⟨k, rfl⟩ : ∃ m, k = m + 1 := ⟨k - 1, by omega⟩
    have hil : i < s.data.toList.length := by omega
    obtain ⟨c, hc⟩ : ∃ c, s.data.toList[i] = c := ⟨_, rfl⟩
    have hg : s.data.toList[i]? = some c := by rw [List.getElem?_eq_getElem hil, hc]
    have hbt := bt_eq s i hil
    rw [hc] at hbt
    have hmem : c ∈ s.data.toList := List.mem_of_getElem? hg
    simp only [impl_SplitFields.l0]
    rw [if_pos (by omega), if_pos (by omega), hbt]
    by_cases ok : okB c = true
    · have okr := (okB_iff c).1 ok
      rw [if_neg (by omega), if_neg (by omega), w64s (by omega)]
      refine ih (i + 1) k (by omega) (by omega) ?_
      rw [List.take_add_one, hg, List.all_append, ha]
      simp [ok]
    · have okr : ¬ (32 ≤ c.toNat ∧ c.toNat ≤ 126) := fun h => ok ((okB_iff c).2 h)
      have hr : res s = ([], false) := by
        unfold res
        rw [if_neg (fun h => ok (List.all_eq_true.1 h.2.1 c hmem))]
      rw [hr]
      by_cases z : (c.toNat : Int) < 32
      · rw [if_pos z]
      · rw [if_neg z, if_pos (by omega)]
theorem impl_eq (s : ByteArray) (k : Nat) (hk : 2000 < k) : impl_SplitFields.f k s = some (res s) := by
  have hl := len_size s
  unfold impl_SplitFields.f
  by_cases q : s.size ≤ 600
  · rw [if_neg (by omega)]
    exact impl_loop s q s.size 0 k (by omega) (by omega) (by simp)
  · rw [if_pos (by omega)]
    unfold res
    rw [if_neg (by omega)]
theorem eq_loop (l : List ByteArray) (hl : l.length ≤ 1000) : ∀ (d i k : Nat), i + d = l.length → d < k → laws_eqStringS.l0 k l l (i : Int) = some true := by
  intro d
  induction d with
  | zero =>
    intro i k hi hk
    obtain ⟨k, rfl⟩ : ∃ m, k = m + 1 := ⟨k - 1, by omega⟩
    simp only [laws_eqStringS.l0]
    rw [if_neg (by omega)]
  | succ d ih =>
    intro i k hi hk
    obtain ⟨k, rfl⟩ : ∃ m, k = m + 1 := ⟨k - 1, by omega⟩
    simp only [laws_eqStringS.l0]
    rw [if_pos (by omega), if_pos (by omega), if_pos (by omega), w64s (by omega), ih (i + 1) k (by omega) (by omega)]
    simp
theorem eq_eq (l : List ByteArray) (hl : l.length ≤ 1000) (k : Nat) (hk : 2000 < k) : laws_eqStringS.f k l l = some true := by
  unfold laws_eqStringS.f
  rw [if_pos rfl]
  exact eq_loop l hl l.length 0 k (by omega) (by omega)
/-- the mark of a number -/
def mk (x : Int) : ByteArray := (laws_markText.f 100 x).getD ByteArray.empty
theorem mk_all : ((List.range 60).all fun (x : Nat) => (laws_markText.f 100 ((x : Int) + 1)).isSome) = true := by decide +kernel
theorem mk_ok (x k : Nat) (hx : x < 60) (hk : 100 ≤ k) : laws_markText.f k ((x : Int) + 1) = some (mk ((x : Int) + 1)) := by
  have t := List.all_eq_true.1 mk_all x (List.mem_range.2 hx)
  obtain ⟨r, hr⟩ := Option.isSome_iff_exists.1 t
  have e : mk ((x : Int) + 1) = r := by unfold mk; rw [hr]; rfl
  rw [e]
  exact at_rounds (g := fun k => laws_markText.f k ((x : Int) + 1)) (fun k => laws_markText.mono _ k) hk hr
def marks (n : Nat) : List ByteArray := (List.range n).map fun (j : Nat) => mk ((j : Int) + 1)
theorem marks_get (n j : Nat) (h : j < n) : rdOf ByteArray.empty (marks n) (j : Int) = mk ((j : Int) + 1) := by
  unfold rdOf marks
  simp [List.getD, h]
theorem mark_loop (n : Nat) (hn : n ≤ 24) : ∀ (d i k : Nat) (l : List ByteArray), i + d = n → d + 200 < k → l.length = n → l.take i = marks i → laws_markStringS.l0 k l ((i : Int) + 1) (i : Int) = some ((n : Int) + 1, marks n) := by
  intro d
  induction d with
  | zero =>
    intro i k l hi hk hl ht
    obtain ⟨k, rfl⟩ : ∃ m, k = m + 1 := ⟨k - 1, by omega⟩
    have e : i = n := by omega
    subst e
    have hm : l = marks i := by rw [← ht, List.take_of_length_le (by omega)]
    simp only [laws_markStringS.l0]
    rw [if_neg (by omega), hm]
  | succ d ih =>
    intro i k l hi hk hl ht
    obtain ⟨k, rfl⟩ : ∃ m, k = m + 1 := ⟨k - 1, by omega⟩
    simp only [laws_markStringS.l0]
    rw [if_pos (by omega), mk_ok i k (by omega) (by omega)]
    simp only [Option.bind_some]
    rw [if_pos (by omega), w64s (by omega), show wrap64 ((i : Int) + 1 + 1) = ((i + 1 : Nat) : Int) + 1 by unfold wrap64; omega]
    refine ih (i + 1) k _ (by omega) (by omega) (by simp [hl]) ?_
    have z : (l.set i (mk ((i : Int) + 1)))[i]? = some (mk ((i : Int) + 1)) := by rw [List.getElem?_set_self (by omega)]
    rw [show ((i : Int)).toNat = i by simp, List.take_add_one, z, List.take_set_of_le (by omega), ht]
    simp [marks, List.range_succ]
theorem mark_eq (l : List ByteArray) (hl : l.length ≤ 24) (k : Nat) (hk : 2000 < k) : laws_markStringS.f k l 1 = some ((l.length : Int) + 1, marks l.length) :=
  mark_loop l.length hl l.length 0 k l (by omega) (by omega) rfl rfl
theorem held_loop (n : Nat) (hn : n ≤ 24) : ∀ (d i k : Nat), i + d = n → d + 200 < k → laws_heldStringS.l0 k (marks n) ((i : Int) + 1) (i : Int) = some ((n : Int) + 1) := by
  have hml : (marks n).length = n := by simp [marks]
  intro d
  induction d with
  | zero =>
    intro i k hi hk
    obtain ⟨k, rfl⟩ : ∃ m, k = m + 1 := ⟨k - 1, by omega⟩
    simp only [laws_heldStringS.l0]
    rw [if_neg (by omega), show i = n by omega]
  | succ d ih =>
    intro i k hi hk
    obtain ⟨k, rfl⟩ : ∃ m, k = m + 1 := ⟨k - 1, by omega⟩
    simp only [laws_heldStringS.l0]
    rw [if_pos (by omega), if_pos (by omega), mk_ok i k (by omega) (by omega)]
    simp only [Option.bind_some]
    rw [if_pos (by rw [marks_get n i (by omega)]), w64s (by omega), show wrap64 ((i : Int) + 1 + 1) = ((i + 1 : Nat) : Int) + 1 by unfold wrap64; omega]
    exact ih (i + 1) k (by omega) (by omega)
theorem held_eq (n : Nat) (hn : n ≤ 24) (k : Nat) (hk : 2000 < k) : laws_heldStringS.f k (marks n) 1 = some ((n : Int) + 1) :=
  held_loop n hn n 0 k (by omega) (by omega)
theorem res_len (s : ByteArray) : (res s).1.length ≤ 24 := by
  unfold res
  split
  · rename_i h; simpa using h.2.2
  · simp
theorem FnExactSplitFields : laws_FnExactSplitFields.Pure := by
  intro s _
  refine ⟨5000, ?_⟩
  unfold laws_FnExactSplitFields.f
  by_cases q : (s.size : Int) > 1048576
  · rw [if_pos q]
  · have rl := res_len s
    rw [if_neg q, spec_eq s 5000 (by omega), impl_eq s 5000 (by omega)]
    simp only [Option.bind_some]
    rw [eq_eq _ (by omega) 5000 (by omega)]
    simp only [Option.bind_some, if_true, bne_self_eq_false, laws_FnExactSplitFields.j0, Bool.false_eq_true, if_false]
    rw [mark_eq _ rl 4999 (by omega)]
    simp only [Option.bind_some]
    rw [held_eq _ rl 4999 (by omega)]
    simp only [Option.bind_some]
    rw [if_neg (by omega), impl_eq s 4999 (by omega)]
    simp only [Option.bind_some]
    rw [eq_eq _ (by omega) 4999 (by omega)]
    simp only [Option.bind_some, if_true, bne_self_eq_false, laws_FnExactSplitFields.j1, Bool.false_eq_true, if_false]
    rw [held_eq _ rl 4998 (by omega)]
    simp only [Option.bind_some]
    rw [if_neg (by omega)]
    simp
end Go.Proofs.YtajmccnilhambaaDoor.Pure
