/- What is proved: rows of the call's own, in the words of the library's sort (no program in sight; no conditions beyond those named). -/
import Derived.Laws.AppendOwn
import Derived.Sort.Row
import Derived.Sort.Grow
import Derived.Below
import Derived.Lib.SlicesCompact
namespace Go.Proofs.Ytmfkgnfjjfnfmaa.Srt
open Go Go.Sort
theorem own_slice {w : World} {base : Nat} {e : TypeId} {size n cap : Nat} {A : Option Addr} {inner : List Value} (h : w.ownsRow base e size (.slice A n cap) n inner) (hn : 0 < n) :
    ∃ g cur, A = some ⟨g, 0, none⟩ ∧ base ≤ g ∧ w.heap[g]? = some (.cells cur e (0, 0)) ∧ n ≤ cap ∧ cap ≤ maxLen ∧ cur.size = cap * size ∧ cur.toList.take (n * size) = inner ∧ inner.length = n * size := by
  obtain ⟨h1, h2⟩ := h
  rcases h2 with ⟨_, h3⟩ | ⟨g, cap', cur, he, hb, hh, hnc, hm, hs, ht⟩
  · omega
  · injection he with e1 e2 e3
    subst e3
    exact ⟨g, cur, e1, hb, hh, hnc, hm, hs, ht, h1⟩
theorem holds_of_own {w : World} {base : Nat} {e : TypeId} {size n cap g : Nat} {inner : List Value} (h : w.ownsRow base e size (.slice (some ⟨g, 0, none⟩) n cap) n inner) (hn : 0 < n) :
    Holds id w g 0 inner.toArray ∧ g < w.heap.size ∧ base ≤ g := by
  obtain ⟨g', cur, e1, hb, hh, hnc, hm, hs, ht, hl⟩ := own_slice h hn
  injection e1 with e1
  injection e1 with e1
  subst e1
  refine ⟨fun j hj => ?_, (Array.getElem?_eq_some_iff.1 hh).1, hb⟩
  have hj' : j < n * size := by simpa [hl] using hj
  have hle : n * size ≤ cap * size := Nat.mul_le_mul_right _ hnc
  have hc : cur[j]? = some inner.toArray[j]! := by
    have h3 : inner[j]? = cur.toList[j]? := by rw [← ht, List.getElem?_take, if_pos hj']
    have h4 : j < inner.length := by omega
    rw [List.getElem?_eq_getElem h4] at h3
    rw [← Array.getElem?_toList, ← h3]
    simp [h4]
  constructor
  · simp [World.cell?, hh, hc]
  · simp [World.frozen?, hh]
theorem put_id {α : Type} [Inhabited α] (enc : α → Value) (w : World) (g off : Nat) (d : Array α) : putRow enc w g off d = putRow id w g off (d.map enc) := by
  unfold putRow
  refine mapBlock_congr _ _ _ _ fun c _ _ _ => ?_
  apply Array.ext_getElem?
  intro k
  simp only [putCells, Array.getElem?_mapIdx, Array.size_map]
  cases c[k]? with
  | none => rfl
  | some y =>
    simp only [Option.map_some]
    split
    · rename_i hk
      have h1 : k - off < d.size := by omega
      rw [getElem!_pos d _ h1, getElem!_pos (d.map enc) _ (by simpa using h1)]
      simp
    · rfl
theorem holds_enc {α : Type} [Inhabited α] (enc : α → Value) {w : World} {g off : Nat} {d : Array α} (h : Holds id w g off (d.map enc)) : Holds enc w g off d := by
  intro j hj
  have h1 := h j (by simpa using hj)
  refine ⟨h1.1.trans ?_, h1.2⟩
  rw [getElem!_pos d _ hj, getElem!_pos (d.map enc) _ (by simpa using hj)]
  simp
theorem heap_put {w : World} {q g : Nat} {d : Array Value} {os : Array Obj} {k : Nat} (hk : k < w.heap.size) (hne : k ≠ g) : (grow (putRow id (Sort.ahead w q) g 0 d) os).heap[k]? = w.heap[k]? := by
  rw [heap_grow_old _ _ (by simpa using hk)]
  simp only [putRow, mapBlock, Array.getElem?_modify, heap_ahead]
  rw [if_neg (fun e => hne e.symm)]
theorem grown_put (w : World) (q g : Nat) (d : Array Value) (os : Array Obj) : w.grownBy (grow (putRow id (Sort.ahead w q) g 0 d) os) (some g) :=
  ⟨rfl, rfl, rfl, by simp, fun k hk hne => heap_put hk (fun e => hne (by rw [e]))⟩
theorem own_put {w : World} {base : Nat} {e : TypeId} {size n cap g q : Nat} {inner inner' : List Value} {os : Array Obj} (h : w.ownsRow base e size (.slice (some ⟨g, 0, none⟩) n cap) n inner) (hn : 0 < n) (hl : inner'.length = inner.length) :
    (grow (putRow id (Sort.ahead w q) g 0 inner'.toArray) os).ownsRow base e size (.slice (some ⟨g, 0, none⟩) n cap) n inner' := by
  obtain ⟨g', cur, e1, hb, hh, hnc, hm, hs, ht, hl0⟩ := own_slice h hn
  injection e1 with e1
  injection e1 with e1
  subst e1
  have hle : n * size ≤ cap * size := Nat.mul_le_mul_right _ hnc
  refine ⟨by omega, .inr ⟨g, cap, putCells id 0 inner'.toArray cur, rfl, hb, ?_, hnc, hm, by simp [putCells, hs], ?_⟩⟩
  · rw [heap_grow_old _ _ (by simpa using (Array.getElem?_eq_some_iff.1 hh).1)]
    simp only [putRow, mapBlock, Array.getElem?_modify, heap_ahead]
    rw [if_pos trivial, hh]
    rfl
  · apply List.ext_getElem?
    intro j
    rw [List.getElem?_take]
    by_cases hj : j < n * size
    · have h5 : j < inner'.length := by omega
      have h6 : j < cur.size := by omega
      rw [if_pos hj, Array.getElem?_toList, putCells, Array.getElem?_mapIdx, Array.getElem?_eq_getElem h6]
      simp only [Option.map_some]
      rw [if_pos ⟨by omega, by simpa using h5⟩, List.getElem?_eq_getElem h5]
      simp [h5]
    · rw [if_neg hj, List.getElem?_eq_none (by omega)]
theorem own_cut {w : World} {base : Nat} {e : TypeId} {size n m cap : Nat} {A : Option Addr} {inner : List Value} (h : w.ownsRow base e size (.slice A n cap) n inner) (hn : 0 < n) (hm : m ≤ n) : w.ownsRow base e size (.slice A m cap) m (inner.take (m * size)) := by
  obtain ⟨g, cur, e1, hb, hh, hnc, hc, hs, ht, hl⟩ := own_slice h hn
  subst e1
  have h1 : m * size ≤ n * size := Nat.mul_le_mul_right _ hm
  refine ⟨by rw [List.length_take]; omega, .inr ⟨g, cap, cur, rfl, hb, hh, by omega, hc, hs, ?_⟩⟩
  rw [← ht, List.take_take, Nat.min_eq_left h1]
/-- a row of one cell an element, in the words of the sort -/
theorem holds1 {α : Type} [Inhabited α] (enc : α → Value) {w : World} {base : Nat} {e : TypeId} {cap g : Nat} {xs : List α} (h : w.ownsRow base e 1 (.slice (some ⟨g, 0, none⟩) xs.length cap) xs.length (xs.map enc)) (hn : 0 < xs.length) : Holds enc w g 0 xs.toArray ∧ g < w.heap.size ∧ base ≤ g := by
  obtain ⟨h1, h2, h3⟩ := holds_of_own h hn
  exact ⟨holds_enc enc (by simpa using h1), h2, h3⟩
theorem put1 {α : Type} [Inhabited α] (enc : α → Value) {w : World} {base : Nat} {e : TypeId} {cap g : Nat} {xs ys : List α} (h : w.ownsRow base e 1 (.slice (some ⟨g, 0, none⟩) xs.length cap) xs.length (xs.map enc)) (hn : 0 < xs.length) (hl : ys.length = xs.length) (q : Nat) (os : Array Obj) :
    (grow (putRow enc (Sort.ahead w q) g 0 ys.toArray) os).ownsRow base e 1 (.slice (some ⟨g, 0, none⟩) ys.length cap) ys.length (ys.map enc) ∧ w.grownBy (grow (putRow enc (Sort.ahead w q) g 0 ys.toArray) os) (some g) := by
  rw [put_id enc]
  have e1 : ys.toArray.map enc = (ys.map enc).toArray := by simp
  rw [e1, hl]
  exact ⟨own_put h hn (by simp [hl]), grown_put _ _ _ _ _⟩
theorem cut1 {α : Type} (enc : α → Value) {w : World} {base : Nat} {e : TypeId} {cap : Nat} {A : Option Addr} {xs zs : List α} (h : w.ownsRow base e 1 (.slice A (xs ++ zs).length cap) (xs ++ zs).length ((xs ++ zs).map enc)) (hn : 0 < (xs ++ zs).length) : w.ownsRow base e 1 (.slice A xs.length cap) xs.length (xs.map enc) := by
  have z := own_cut h hn (m := xs.length) (by simp)
  have e1 : ((xs ++ zs).map enc).take (xs.length * 1) = xs.map enc := by rw [Nat.mul_one, List.map_append]; exact List.take_left' (by simp)
  rw [e1] at z
  exact z
theorem compact_len {α : Type} [Inhabited α] [DecidableEq α] (zs : List α) : (Lib.compact zs).length ≤ zs.length := by
  unfold Lib.compact Lib.compactUpTo
  rw [List.length_map]
  have h := List.length_filter_le (Lib.keeps zs.toArray) (List.range zs.length)
  rw [List.length_range] at h
  exact h
end Go.Proofs.Ytmfkgnfjjfnfmaa.Srt
