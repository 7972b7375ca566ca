/- What is proved: rows of the call's own, in the words of the library's sort (no program in sight; no conditions beyond those named). -/
import Derived.Laws.AppendOwn
import Derived.Sort.Row
import Derived.Sort.Grow
import Derived.Below
import Derived.Lib.SlicesCompact
import Derived.Shelf.GgSortFunc.RowK
namespace Go.Proofs.Ytmfkgnfjjfnfmaa.Srt
open Go Go.Sort
theorem own_slice {w : World} {base : Nat} {e : TypeId} {size n cap : Nat} {A : Option Addr} {inner : List Value} (h : w.ownsRow base e size (.slice A n cap) n inner) (hn : 0 < n) :
    ∃ g cur, A = some ⟨g, 0, none⟩ ∧ base ≤ g ∧ w.heap[g]? = some (.cells cur e (0, 0)) ∧ n ≤ cap ∧ cap ≤ maxLen ∧ cur.size = cap * size ∧ cur.toList.take (n * size) = inner ∧ inner.length = n * size := by
  obtain ⟨h1, h2⟩ := h
  rcases h2 with ⟨_, h3⟩ | ⟨g, cap', cur, he, hb, hh, hnc, hm, hs, ht⟩
  · omega
  · injection he with e1 e2 e3
    subst e3
    exact ⟨g, cur, e1, hb, hh, hnc, hm, hs, ht, h1⟩
theorem holds_of_own {w : World} {base : Nat} {e : TypeId} {size n cap g : Nat} {inner : List Value} (h : w.ownsRow base e size (.slice (some ⟨g, 0, none⟩) n cap) n inner) (hn : 0 < n) :
    Holds id w g 0 inner.toArray ∧ g < w.heap.size ∧ base ≤ g := by
  obtain ⟨g', cur, e1, hb, hh, hnc, hm, hs, ht, hl⟩ := own_slice h hn
  injection e1 with e1
  injection e1 with e1
  subst e1
  refine ⟨fun j hj => ?_, (Array.getElem?_eq_some_iff.1 hh).1, hb⟩
  have hj' : j < n * size := by simpa [hl] using hj
  have hle : n * size ≤ cap * size := Nat.mul_le_mul_right _ hnc
  have hc : cur[j]? = some inner.toArray[j]! := by
    have h3 : inner[j]? = cur.toList[j]? := by rw [← ht, List.getElem?_take, if_pos hj']
    have h4 : j < inner.length := by omega
    rw [List.getElem?_eq_getElem h4] at h3
    rw [← Array.getElem?_toList, ← h3]
    simp [h4]
  constructor
  · simp [World.cell?, hh, hc]
  · simp [World.frozen?, hh]
theorem put_id {α : Type} [Inhabited α] (enc : α → Value) (w : World) (g off : Nat) (d : Array α) : putRow enc w g off d = putRow id w g off (d.map enc) := by
  unfold putRow
  refine mapBlock_congr _ _ _ _ fun c _ _ _ => ?_
  apply Array.ext_getElem?
  intro k
  simp only [putCells, Array.getElem?_mapIdx, Array.size_map]
  cases c[k]? with
  | none => rfl
  | some y =>
    simp only [Option.map_some]
    split
    · rename_i hk
      have h1 : k - off < d.size := by omega
      rw [getElem!_pos d _ h1, getElem!_pos (d.map enc) _ (by simpa using h1)]
      simp
    · rfl
theorem holds_enc {α : Type} [Inhabited α] (enc : α → Value) {w : World} {g off : Nat} {d : Array α} (h : Holds id w g off (d.map enc)) : Holds enc w g off d := by
  intro j hj
  have h1 := h j (by simpa using hj)
  refine ⟨h1.1.trans ?_, h1.2⟩
  rw [getElem!_pos d _ hj, getElem!_pos (d.map enc) _ (by simpa using hj)]
  simp
theorem heap_put {w : World} {q g : Nat} {d : Array Value} {os : Array Obj} {k : Nat} (hk : k < w.heap.size) (hne : k ≠ g) : (grow (putRow id (Sort.ahead w q) g 0 d) os).heap[k]? = w.heap[k]? := by
  rw [heap_grow_old _ _ (by simpa using hk)]
  simp only [putRow, mapBlock, Array.getElem?_modify, heap_ahead]
  rw [if_neg (fun e => hne e.symm)]
theorem grown_put (w : World) (q g : Nat) (d : Array Value) (os : Array Obj) : w.grownBy (grow (putRow id (Sort.ahead w q) g 0 d) os) (some g) :=
  ⟨rfl, rfl, rfl, by simp, fun k hk hne => heap_put hk (fun e => hne (by rw [e]))⟩
theorem own_put {w : World} {base : Nat} {e : TypeId} {size n cap g q : Nat} {inner inner' : List Value} {os : Array Obj} (h : w.ownsRow base e size (.slice (some ⟨g, 0, none⟩) n cap) n inner) (hn : 0 < n) (hl : inner'.length = inner.length) :
    (grow (putRow id (Sort.ahead w q) g 0 inner'.toArray) os).ownsRow base e size (.slice (some ⟨g, 0, none⟩) n cap) n inner' := by
  obtain ⟨g', cur, e1, hb, hh, hnc, hm, hs, ht, hl0⟩ := own_slice h hn
  injection e1 with e1
  injection e1 with e1
  subst e1
  have hle : n * size ≤ cap * size := Nat.mul_le_mul_right _ hnc
  refine ⟨by omega, .inr ⟨g, cap, putCells id 0 inner'.toArray cur, rfl, hb, ?_, hnc, hm, by simp [putCells, hs], ?_⟩⟩
  · rw [heap_grow_old _ _ (by simpa using (Array.getElem?_eq_some_iff.1 hh).1)]
    simp only [putRow, mapBlock, Array.getElem?_modify, heap_ahead]
    rw [if_pos trivial, hh]
    rfl
  · apply List.ext_getElem?
    intro j
    rw [List.getElem?_take]
    by_cases hj : j < n * size
    · have h5 : j < inner'.length := by omega
      have h6 : j < cur.size := by omega
      rw [if_pos hj, Array.getElem?_toList, putCells, Array.getElem?_mapIdx, Array.getElem?_eq_getElem h6]
      simp only [Option.map_some]
      rw [if_pos ⟨by omega, by simpa using h5⟩, List.getElem?_eq_getElem h5]
      simp [h5]
    · rw [if_neg hj, List.getElem?_eq_none (by omega)]
theorem own_cut {w : World} {base : Nat} {e : TypeId} {size n m cap : Nat} {A : Option Addr} {inner : List Value} (h : w.ownsRow base e size (.slice A n cap) n inner) (hn : 0 < n) (hm : m ≤ n) : w.ownsRow base e size (.slice A m cap) m (inner.take (m * size)) := by
  obtain ⟨g, cur, e1, hb, hh, hnc, hc, hs, ht, hl⟩ := own_slice h hn
  subst e1
  have h1 : m * size ≤ n * size := Nat.mul_le_mul_right _ hm
  refine ⟨by rw [List.length_take]; omega, .inr ⟨g, cap, cur, rfl, hb, hh, by omega, hc, hs, ?_⟩⟩
  rw [← ht, List.take_take, Nat.min_eq_left h1]
/-- a row of one cell an element, in the words of the sort -/
theorem holds1 {α : Type} [Inhabited α] (enc : α → Value) {w : World} {base : Nat} {e : TypeId} {cap g : Nat} {xs : List α} (h : w.ownsRow base e 1 (.slice (some ⟨g, 0, none⟩) xs.length cap) xs.length (xs.map enc)) (hn : 0 < xs.length) : Holds enc w g 0 xs.toArray ∧ g < w.heap.size ∧ base ≤ g := by
  obtain ⟨h1, h2, h3⟩ := holds_of_own h hn
  exact ⟨holds_enc enc (by simpa using h1), h2, h3⟩
theorem put1 {α : Type} [Inhabited α] (enc : α → Value) {w : World} {base : Nat} {e : TypeId} {cap g : Nat} {xs ys : List α} (h : w.ownsRow base e 1 (.slice (some ⟨g, 0, none⟩) xs.length cap) xs.length (xs.map enc)) (hn : 0 < xs.length) (hl : ys.length = xs.length) (q : Nat) (os : Array Obj) :
    (grow (putRow enc (Sort.ahead w q) g 0 ys.toArray) os).ownsRow base e 1 (.slice (some ⟨g, 0, none⟩) ys.length cap) ys.length (ys.map enc) ∧ w.grownBy (grow (putRow enc (Sort.ahead w q) g 0 ys.toArray) os) (some g) := by
  rw [put_id enc]
  have e1 : ys.toArray.map enc = (ys.map enc).toArray := by simp
  rw [e1, hl]
  exact ⟨own_put h hn (by simp [hl]), grown_put _ _ _ _ _⟩
theorem cut1 {α : Type} (enc : α → Value) {w : World} {base : Nat} {e : TypeId} {cap : Nat} {A : Option Addr} {xs zs : List α} (h : w.ownsRow base e 1 (.slice A (xs ++ zs).length cap) (xs ++ zs).length ((xs ++ zs).map enc)) (hn : 0 < (xs ++ zs).length) : w.ownsRow base e 1 (.slice A xs.length cap) xs.length (xs.map enc) := by
  have z := own_cut h hn (m := xs.length) (by simp)
  have e1 : ((xs ++ zs).map enc).take (xs.length * 1) = xs.map enc := by rw [Nat.mul_one, List.map_append]; exact List.take_left' (by simp)
  rw [e1] at z
  exact z
theorem compact_len {α : Type} [Inhabited α] [DecidableEq α] (zs : List α) : (Lib.compact zs).length ≤ zs.length := by
  unfold Lib.compact Lib.compactUpTo
  rw [List.length_map]
  have h := List.length_filter_le (Lib.keeps zs.toArray) (List.range zs.length)
  rw [List.length_range] at h
  exact h
theorem flat_get {α : Type} [Inhabited α] (f : α → List Value) (k : Nat) (hk : ∀ x, (f x).length = k) (h0 : 0 < k) : ∀ (xs : List α) (t : Nat), t < xs.length * k → (xs.flatMap f)[t]! = (f xs[t / k]!)[t % k]!
  | [], t, h => by simp at h
  | x :: xs, t, h => by
    rw [List.flatMap_cons]
    by_cases c : t < k
    · rw [Nat.div_eq_of_lt c, Nat.mod_eq_of_lt c]
      simp only [List.getElem!_eq_getElem?_getD]
      rw [List.getElem?_append_left (by rw [hk]; exact c)]
      simp
    · have e1 : t / k = (t - k) / k + 1 := Nat.div_eq_sub_div h0 (by omega)
      have e2 : t % k = (t - k) % k := Nat.mod_eq_sub_mod (by omega)
      have ih := flat_get f k hk h0 xs (t - k) (by rw [List.length_cons, Nat.succ_mul] at h; omega)
      rw [e1, e2]
      simp only [List.getElem!_eq_getElem?_getD] at ih ⊢
      rw [List.getElem?_append_right (by rw [hk]; omega), hk, ih]
      simp
theorem flat_len {α : Type} (f : α → List Value) (k : Nat) (hk : ∀ x, (f x).length = k) : ∀ xs : List α, (xs.flatMap f).length = xs.length * k
  | [] => by simp
  | x :: xs => by rw [List.flatMap_cons, List.length_append, hk, flat_len f k hk xs, List.length_cons, Nat.succ_mul]; omega
theorem flat_eq {α : Type} [Inhabited α] (f : α → List Value) (k : Nat) (hk : ∀ x, (f x).length = k) (h0 : 0 < k) (xs : List α) : flatK f k xs.toArray = (xs.flatMap f).toArray := by
  refine ext_get! (by simp [flat_len f k hk]) fun t ht => ?_
  have ht' : t < xs.length * k := by simpa using ht
  rw [get_flatK _ _ _ t (by simpa using ht')]
  have h := flat_get f k hk h0 xs t ht'
  rw [show (xs.flatMap f).toArray[t]! = (xs.flatMap f)[t]! by simp, h]
  simp
/-- a row of elements of k cells, in the words of the sort -/
theorem holdsK {α : Type} [Inhabited α] (f : α → List Value) (k : Nat) (hk : ∀ x, (f x).length = k) (h0 : 0 < k) {w : World} {base : Nat} {e : TypeId} {cap g : Nat} {xs : List α} (h : w.ownsRow base e k (.slice (some ⟨g, 0, none⟩) xs.length cap) xs.length (xs.flatMap f)) (hn : 0 < xs.length) : HoldsK f k w g 0 xs.toArray ∧ g < w.heap.size ∧ base ≤ g := by
  obtain ⟨h1, h2, h3⟩ := holds_of_own h hn
  exact ⟨by unfold HoldsK; rw [flat_eq f k hk h0]; exact h1, h2, h3⟩
theorem putK {α : Type} [Inhabited α] (f : α → List Value) (k : Nat) (hk : ∀ x, (f x).length = k) (h0 : 0 < k) {w : World} {base : Nat} {e : TypeId} {cap g : Nat} {xs ys : List α} (h : w.ownsRow base e k (.slice (some ⟨g, 0, none⟩) xs.length cap) xs.length (xs.flatMap f)) (hn : 0 < xs.length) (hl : ys.length = xs.length) (q : Nat) (os : Array Obj) :
    (grow (putRowK f k (Sort.ahead w q) g 0 ys.toArray) os).ownsRow base e k (.slice (some ⟨g, 0, none⟩) ys.length cap) ys.length (ys.flatMap f) ∧ w.grownBy (grow (putRowK f k (Sort.ahead w q) g 0 ys.toArray) os) (some g) := by
  unfold putRowK
  rw [flat_eq f k hk h0, hl]
  exact ⟨own_put h hn (by rw [flat_len f k hk, flat_len f k hk, hl]), grown_put _ _ _ _ _⟩
theorem own_beyond {w : World} {base : Nat} {e : TypeId} {size n cap g : Nat} {inner : List Value} (h : w.ownsRow base e size (.slice (some ⟨g, 0, none⟩) n cap) n inner) (j : Nat) (hj : n * size ≤ j) (u : Value) : (w.setCell ⟨g, j, none⟩ u).ownsRow base e size (.slice (some ⟨g, 0, none⟩) n cap) n inner := by
  obtain ⟨h1, h2⟩ := h
  refine ⟨h1, ?_⟩
  rcases h2 with ⟨h2, _⟩ | ⟨g', cap', cur, he, hb, hh, hnc, hm, hs, ht⟩
  · cases h2
  · injection he with e1 e2 e3
    injection e1 with e1
    injection e1 with e1
    subst e1; subst e3
    refine .inr ⟨g, cap, cur.setIfInBounds j u, rfl, hb, ?_, hnc, hm, by simpa using hs, ?_⟩
    · have hg := (Array.getElem?_eq_some_iff.1 hh).1
      simp only [World.setCell, Array.getElem?_modify, if_true, hh, Option.map_some]
      rfl
    · rw [← ht]
      apply List.ext_getElem?
      intro i
      rw [List.getElem?_take, List.getElem?_take]
      by_cases c : i < n * size
      · rw [if_pos c, if_pos c, Array.getElem?_toList, Array.getElem?_toList, Array.getElem?_setIfInBounds, if_neg (by omega)]
      · rw [if_neg c, if_neg c]
theorem own_beyonds {base : Nat} {e : TypeId} {size n cap g : Nat} {inner : List Value} : ∀ (us : List Value) (w : World) (j : Nat), w.ownsRow base e size (.slice (some ⟨g, 0, none⟩) n cap) n inner → n * size ≤ j → (w.setCells g j us).ownsRow base e size (.slice (some ⟨g, 0, none⟩) n cap) n inner
  | [], w, j, h, _ => h
  | u :: us, w, j, h, hj => by
    rw [World.setCells]
    exact own_beyonds us _ (j + 1) (own_beyond h j hj u) (by omega)
theorem below_cells {B : Nat} {a : World} {g : Nat} (hg : B ≤ g) : ∀ (us : List Value) (w : World) (j : Nat), Go.RowKit.Below B a w → Go.RowKit.Below B a (w.setCells g j us)
  | [], w, j, h => h
  | u :: us, w, j, h => by
    rw [World.setCells]
    exact below_cells hg us _ (j + 1) (h.setCell hg _)
end Go.Proofs.Ytmfkgnfjjfnfmaa.Srt
