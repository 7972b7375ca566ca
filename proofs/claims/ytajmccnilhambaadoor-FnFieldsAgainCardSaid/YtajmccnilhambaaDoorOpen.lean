/- What is proved: how an argument of a law (a struct of two numbers, of a slice, of both; a slice of pairs of numbers) is laid open. Conditions: the types' rows, as each lemma names them. -/
import Derived.ProofKit
import Derived.WalkKit
import Derived.ChangeSame
import Derived.Deep.SlicePairs
import Derived.Test.YtajmccnilhambaaDoorWLast
import Derived.Test.YtajmccnilhambaaDoorWWords
set_option linter.unusedVariables false
namespace Go.Proofs.YtajmccnilhambaaDoor.Opn
open Go.ChangeShapes Go.WideShapes Go.RowKit Go.Deep Go.Proofs.YtajmccnilhambaaDoorW.PrintWords
section
variable {H : Type} {enc : TypeId × Value → H} {P : Program} {w : World} {base : Nat} {held : Bool}
theorem arr1 {α : Type} {cs : Array α} (h : cs.size = 1) : ∃ c0, cs = #[c0] := by
  match cs, h with
  | ⟨[c0]⟩, _ => exact ⟨c0, rfl⟩
theorem arr2 {α : Type} {cs : Array α} (h : cs.size = 2) : ∃ c0 c1, cs = #[c0, c1] := by
  match cs, h with
  | ⟨[c0, c1]⟩, _ => exact ⟨c0, c1, rfl⟩
theorem arr3 {α : Type} {cs : Array α} (h : cs.size = 3) : ∃ c0 c1 c2, cs = #[c0, c1, c2] := by
  match cs, h with
  | ⟨[c0, c1, c2]⟩, _ => exact ⟨c0, c1, c2, rfl⟩
/-- a slice of ints, out of its one cell's reading -/
theorem ints {kd : IntKind} {t e : TypeId} {fuel : Nat} {v : Value} {x : DataW H × List MemPlace} (ht : P.underlying t = some (.slice e)) (he : P.underlying e = some (.int kd)) (hc : P.cellsOf e = 1)
    (h : DataW.trod enc P w base (fun _ => true) held fuel t [v] = some x) :
    ∃ (A : Option Addr) (c : Nat) (l : List Int), v = .slice A l.length c ∧ Kd.C (Kd.int kd) w A l.length l ∧ l.length ≤ maxLen ∧ (∀ y ∈ l, (Lit.int kd y).wf = true) ∧ l.length ≤ c := by
  rcases open_ints ht he hc h with ⟨hcs, _⟩ | ⟨a, len, cap, zs, hcs, _, hl, hm, hz, _, hcell, hwz⟩
  · simp at hcs
    subst hcs
    exact ⟨none, 0, [], rfl, Kd.C_of_reads (d := (0 : Int)) (h1 := fun _ => rfl) (ReadsInt.nil w kd), by simp, by simp, by simp⟩
  · simp at hcs
    subst hcs
    obtain ⟨l, rfl, hr, h1, h2, h3⟩ := ReadsInt.ofRowC (k := kd) (w := w) (a := some a) (len := len) (cap := cap) (zs := zs) (.inr ⟨a, rfl, hl, hm, by simpa using hz, hcell, hwz⟩)
    exact ⟨some a, cap, l, rfl, Kd.C_of_reads (d := (0 : Int)) (h1 := fun _ => rfl) hr, h1, h2, h3⟩
/-- the same for a slice that is an argument -/
theorem slInts {r : Reach} {b0 : Nat} {kd : IntKind} {t e : TypeId} {v : Value} {d : DataW H} {p : List MemPlace} (ht : P.underlying t = some (.slice e)) (he : P.underlying e = some (.int kd)) (hc : P.cellsOf e = 1)
    (hv : Value.okWide P w r b0 t v) (h : DataW.Trod enc P w base (fun _ => true) held t v d p) :
    ∃ (A : Option Addr) (c : Nat) (l : List Int), v = .slice A l.length c ∧ Kd.C (Kd.int kd) w A l.length l ∧ l.length ≤ maxLen ∧ (∀ y ∈ l, (Lit.int kd y).wf = true) ∧ l.length ≤ c := by
  obtain ⟨a, len, cap, rfl⟩ := okWide_slice ht hv
  obtain ⟨fuel, hf⟩ := h
  exact ints ht he hc (by simpa [Value.cells] using hf)
/-- a struct of two ints -/
theorem two {fuel : Nat} {t : TypeId} {f0 f1 : Field} {v0 v1 : Value} {x : DataW H × List MemPlace} (hs : P.underlying t = some (.struct #[f0, f1])) (ho0 : f0.offset = 0) (ho1 : f1.offset = 1) (hk0 : P.cellsOf f0.type = 1) (hk1 : P.cellsOf f1.type = 1)
    (hi0 : P.underlying f0.type = some (.int .i64)) (hi1 : P.underlying f1.type = some (.int .i64)) (h : DataW.trod enc P w base (fun _ => true) held fuel t [v0, v1] = some x) :
    ∃ a b : Int, v0 = .int .i64 a ∧ v1 = .int .i64 b ∧ (Lit.int .i64 a).wf = true ∧ (Lit.int .i64 b).wf = true := by
  obtain ⟨y0, y1, n, _, _, h0, h1⟩ := trod_struct2 hs h
  rw [ho0, hk0] at h0
  rw [ho1, hk1] at h1
  obtain ⟨a, e0, _, w0⟩ := DataW.trod_int hi0 h0
  obtain ⟨b, e1, _, w1⟩ := DataW.trod_int hi1 h1
  simp at e0 e1
  exact ⟨a, b, e0, e1, w0, w1⟩
theorem grid {r : Reach} {b0 : Nat} {t : TypeId} {f0 f1 : Field} {v : Value} {d : DataW H} {p : List MemPlace} (hs : P.underlying t = some (.struct #[f0, f1])) (hC : P.cellsOf t = 2) (ho0 : f0.offset = 0) (ho1 : f1.offset = 1) (hk0 : P.cellsOf f0.type = 1) (hk1 : P.cellsOf f1.type = 1)
    (hi0 : P.underlying f0.type = some (.int .i64)) (hi1 : P.underlying f1.type = some (.int .i64)) (hv : Value.okWide P w r b0 t v) (h : DataW.Trod enc P w base (fun _ => true) held t v d p) :
    ∃ a b : Int, v = .agg #[.int .i64 a, .int .i64 b] ∧ (Lit.int .i64 a).wf = true ∧ (Lit.int .i64 b).wf = true := by
  obtain ⟨cs, rfl, hsz⟩ := okWide_struct hs hv
  obtain ⟨c0, c1, rfl⟩ := arr2 (hsz.trans hC)
  obtain ⟨fuel, hf⟩ := h
  obtain ⟨a, b, rfl, rfl, w0, w1⟩ := two hs ho0 ho1 hk0 hk1 hi0 hi1 (by simpa [Value.cells] using hf)
  exact ⟨a, b, rfl, w0, w1⟩
theorem table {r : Reach} {b0 : Nat} {t e : TypeId} {f0 : Field} {v : Value} {d : DataW H} {p : List MemPlace} (hs : P.underlying t = some (.struct #[f0])) (hC : P.cellsOf t = 1) (ho0 : f0.offset = 0) (hk0 : P.cellsOf f0.type = 1)
    (ht : P.underlying f0.type = some (.slice e)) (he : P.underlying e = some (.int .i64)) (hc : P.cellsOf e = 1) (hv : Value.okWide P w r b0 t v) (h : DataW.Trod enc P w base (fun _ => true) held t v d p) :
    ∃ (A : Option Addr) (c : Nat) (l : List Int), v = .agg #[.slice A l.length c] ∧ Kd.C (Kd.int .i64) w A l.length l ∧ l.length ≤ maxLen ∧ (∀ y ∈ l, (Lit.int .i64 y).wf = true) ∧ l.length ≤ c := by
  obtain ⟨cs, rfl, hsz⟩ := okWide_struct hs hv
  obtain ⟨c0, rfl⟩ := arr1 (hsz.trans hC)
  obtain ⟨fuel, hf⟩ := h
  obtain ⟨y0, n, _, _, h0⟩ := trod_struct1 hs hf
  rw [ho0, hk0] at h0
  obtain ⟨A, c, l, e1, h1, h2, h3, h4⟩ := ints ht he hc (v := c0) (by simpa [Value.cells] using h0)
  exact ⟨A, c, l, by rw [e1], h1, h2, h3, h4⟩
theorem mesh {r : Reach} {b0 : Nat} {t e : TypeId} {f0 f1 g0 g1 : Field} {v : Value} {d : DataW H} {p : List MemPlace} (hs : P.underlying t = some (.struct #[f0, f1])) (hC : P.cellsOf t = 3) (ho0 : f0.offset = 0) (ho1 : f1.offset = 2) (hk0 : P.cellsOf f0.type = 2) (hk1 : P.cellsOf f1.type = 1)
    (hg : P.underlying f0.type = some (.struct #[g0, g1])) (go0 : g0.offset = 0) (go1 : g1.offset = 1) (gk0 : P.cellsOf g0.type = 1) (gk1 : P.cellsOf g1.type = 1)
    (hi0 : P.underlying g0.type = some (.int .i64)) (hi1 : P.underlying g1.type = some (.int .i64)) 
    (ht : P.underlying f1.type = some (.slice e)) (he : P.underlying e = some (.int .i64)) (hc : P.cellsOf e = 1) (hv : Value.okWide P w r b0 t v) (h : DataW.Trod enc P w base (fun _ => true) held t v d p) :
    ∃ (a b : Int) (A : Option Addr) (c : Nat) (l : List Int), v = .agg #[.int .i64 a, .int .i64 b, .slice A l.length c] ∧ (Lit.int .i64 a).wf = true ∧ (Lit.int .i64 b).wf = true ∧ Kd.C (Kd.int .i64) w A l.length l ∧ l.length ≤ maxLen ∧ (∀ y ∈ l, (Lit.int .i64 y).wf = true) ∧ l.length ≤ c := by
  obtain ⟨cs, rfl, hsz⟩ := okWide_struct hs hv
  obtain ⟨c0, c1, c2, rfl⟩ := arr3 (hsz.trans hC)
  obtain ⟨fuel, hf⟩ := h
  obtain ⟨y0, y1, n, _, _, h0, h1⟩ := trod_struct2 hs hf
  rw [ho0, hk0] at h0
  rw [ho1, hk1] at h1
  obtain ⟨a, b, rfl, rfl, w0, w1⟩ := two hg go0 go1 gk0 gk1 hi0 hi1 (v0 := c0) (v1 := c1) (by simpa [Value.cells] using h0)
  obtain ⟨A, c, l, e1, h1, h2, h3, h4⟩ := ints ht he hc (v := c2) (by simpa [Value.cells] using h1)
  exact ⟨a, b, A, c, l, by rw [e1], w0, w1, h1, h2, h3, h4⟩
/-- a slice of structs of two ints; mk: the struct as the print has it -/
theorem pairs {α : Type} (k : Kd α) (mk : Int → Int → α) (hk : ∀ (w : World) (a b : Int), k.K w (mk a b) [.int .i64 a, .int .i64 b]) (hsz : k.sz = 2) {r : Reach} {b0 : Nat} {t e : TypeId} {f0 f1 : Field} {v : Value} {d : DataW H} {p : List MemPlace}
    (ht : P.underlying t = some (.slice e)) (he : P.underlying e = some (.struct #[f0, f1])) (hC : P.cellsOf e = 2) (ho0 : f0.offset = 0) (ho1 : f1.offset = 1) (hk0 : P.cellsOf f0.type = 1) (hk1 : P.cellsOf f1.type = 1)
    (hi0 : P.underlying f0.type = some (.int .i64)) (hi1 : P.underlying f1.type = some (.int .i64)) (hv : Value.okWide P w r b0 t v) (h : DataW.Trod enc P w base (fun _ => true) held t v d p) :
    ∃ (A : Option Addr) (c : Nat) (l : List α), v = .slice A l.length c ∧ Kd.C k w A l.length l ∧ l.length ≤ maxLen ∧ (∀ y ∈ l, ∃ a b, y = mk a b ∧ (Lit.int .i64 a).wf = true ∧ (Lit.int .i64 b).wf = true) ∧ l.length ≤ c := by
  obtain ⟨a, len, cap, rfl⟩ := okWide_slice ht hv
  obtain ⟨fuel, hf⟩ := h
  rcases open_slice_pairs (cs := [.slice a len cap]) ht he hC ho0 ho1 hk0 hk1 (by simpa [Value.cells] using hf) with ⟨hcs, _⟩ | ⟨a, len', cap', m, n, V0, V1, D0, D1, P0, P1, hcs, _, hl, hm, hmm, _, hx⟩
  · simp at hcs
    obtain ⟨rfl, rfl, rfl⟩ := hcs
    exact ⟨none, 0, [], rfl, ⟨rfl, by simp, fun h => absurd h (by simp)⟩, by simp, by simp, by simp⟩
  · simp at hcs
    obtain ⟨rfl, rfl, rfl⟩ := hcs
    simp at hmm
    have each : ∀ i, i < len → ∃ q : Int × Int, w.cell? (a.add (i * 2)) = some (.int .i64 q.1) ∧ w.cell? (a.add (i * 2 + 1)) = some (.int .i64 q.2) ∧ (Lit.int .i64 q.1).wf = true ∧ (Lit.int .i64 q.2).wf = true := by
      intro i hi
      obtain ⟨c0, c1, g0, g1⟩ := hx i (by omega)
      obtain ⟨x0, e0, _, w0⟩ := DataW.trod_int hi0 g0
      obtain ⟨x1, e1, _, w1⟩ := DataW.trod_int hi1 g1
      simp at e0 e1
      exact ⟨(x0, x1), by rw [c0, e0], by rw [c1, e1], w0, w1⟩
    obtain ⟨q, hq⟩ := choose_lt each
    have hlen : ((List.range len).map fun i => mk (q i).1 (q i).2).length = len := by simp
    unfold maxLen at hm ⊢
    refine ⟨some a, cap, (List.range len).map fun i => mk (q i).1 (q i).2, by rw [hlen], ⟨rfl, by rw [hlen]; omega, fun _ => ⟨a, rfl, fun j p hj => ?_⟩⟩, by rw [hlen]; omega, fun y hy => ?_, by rw [hlen]; exact hl⟩
    · obtain ⟨hj1, hj2⟩ := List.getElem?_eq_some_iff.1 hj
      rw [hlen] at hj1
      simp at hj2
      subst hj2
      refine ⟨[.int .i64 (q j).1, .int .i64 (q j).2], by rw [hsz]; rfl, hk w _ _, fun i u hu => ?_⟩
      rw [hsz]
      match i, hu with
      | 0, hu => simp at hu; subst hu; simpa using (hq j hj1).1
      | 1, hu => simp at hu; subst hu; exact (hq j hj1).2.1
    · obtain ⟨i, hi, rfl⟩ := List.mem_map.1 hy
      have hi := List.mem_range.1 hi
      exact ⟨_, _, rfl, (hq i hi).2.2.1, (hq i hi).2.2.2⟩
end
end Go.Proofs.YtajmccnilhambaaDoor.Opn
