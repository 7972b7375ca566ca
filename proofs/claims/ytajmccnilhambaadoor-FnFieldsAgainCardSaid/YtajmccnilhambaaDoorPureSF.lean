/- What is proved: laws of the kit's Lib.fields: what a field is, and that fields joined by spaces have the same fields. -/
import Derived.Lib.FieldsLaws
set_option linter.unusedVariables false
set_option linter.unusedSimpArgs false
namespace Go.Proofs.YtajmccnilhambaaDoor.PureSF
open Go.Lib
/-- A field's form: not empty, no white space. -/
def Fld (x : List UInt8) : Prop := x ≠ [] ∧ ∀ b ∈ x, isSp b = false
theorem go_form : ∀ (l cur : List UInt8), (∀ b ∈ cur, isSp b = false) → ∀ x ∈ fieldsGo cur l, Fld x
  | [], cur, hc, x, hx => by
    cases cur with
    | nil => simp [fieldsGo] at hx
    | cons c r => simp [fieldsGo] at hx; subst hx; exact ⟨by simp, hc⟩
  | b :: l, cur, hc, x, hx => by
    cases hb : isSp b with
    | false =>
      rw [fieldsGo_more cur b l hb] at hx
      refine go_form l (cur ++ [b]) ?_ x hx
      intro c hcm
      rcases List.mem_append.1 hcm with h | h
      · exact hc c h
      · simp at h; subst h; exact hb
    | true =>
      by_cases he : cur = []
      · subst he
        rw [fieldsGo_sp b l hb] at hx
        exact go_form l [] (by simp) x hx
      · rw [fieldsGo_end cur b l hb he] at hx
        rcases List.mem_cons.1 hx with h | h
        · subst h; exact ⟨he, hc⟩
        · exact go_form l [] (by simp) x h
theorem form (l : List UInt8) : ∀ x ∈ fields l, Fld x := go_form l [] (by simp)
theorem go_mem : ∀ (l cur : List UInt8) (x : List UInt8), x ∈ fieldsGo cur l → ∀ b ∈ x, b ∈ cur ∨ b ∈ l
  | [], cur, x, hx, b, hb => by
    cases cur with
    | nil => simp [fieldsGo] at hx
    | cons c r => simp [fieldsGo] at hx; subst hx; exact .inl hb
  | c :: l, cur, x, hx, b, hb => by
    cases hs : isSp c with
    | false =>
      rw [fieldsGo_more cur c l hs] at hx
      rcases go_mem l (cur ++ [c]) x hx b hb with h | h
      · rcases List.mem_append.1 h with h | h
        · exact .inl h
        · simp at h; subst h; exact .inr (by simp)
      · exact .inr (List.mem_cons_of_mem _ h)
    | true =>
      by_cases he : cur = []
      · subst he
        rw [fieldsGo_sp c l hs] at hx
        rcases go_mem l [] x hx b hb with h | h
        · simp at h
        · exact .inr (List.mem_cons_of_mem _ h)
      · rw [fieldsGo_end cur c l hs he] at hx
        rcases List.mem_cons.1 hx with h | h
        · subst h; exact .inl hb
        · rcases go_mem l [] x h b hb with h | h
          · simp at h
          · exact .inr (List.mem_cons_of_mem _ h)
theorem mem_of (l : List UInt8) (x : List UInt8) (hx : x ∈ fields l) (b : UInt8) (hb : b ∈ x) : b ∈ l := by
  rcases go_mem l [] x hx b hb with h | h
  · simp at h
  · exact h
/-- the joined text -/
def join (p : List (List UInt8)) : List UInt8 := p.flatMap fun x => x ++ [32]
theorem join_snoc (p : List (List UInt8)) (x : List UInt8) : join (p ++ [x]) = join p ++ x ++ [32] := by simp [join]
theorem go_piece : ∀ (x cur r : List UInt8), (∀ b ∈ x, isSp b = false) → fieldsGo cur (x ++ r) = fieldsGo (cur ++ x) r
  | [], cur, r, _ => by simp
  | b :: x, cur, r, h => by
    rw [List.cons_append, fieldsGo_more cur b _ (h b (by simp)), go_piece x (cur ++ [b]) r (fun c hc => h c (List.mem_cons_of_mem _ hc))]
    simp
theorem sp32 : isSp 32 = true := by decide
theorem fields_join : ∀ (p : List (List UInt8)), (∀ x ∈ p, Fld x) → fields (join p) = p
  | [], _ => by simp [join, fields, fieldsGo]
  | x :: p, h => by
    have hx := h x (by simp)
    have e : join (x :: p) = x ++ ([32] ++ join p) := by simp [join]
    have ih := fields_join p (fun y hy => h y (List.mem_cons_of_mem _ hy))
    unfold fields at ih ⊢
    rw [e, go_piece x [] _ hx.2, List.nil_append, List.cons_append, List.nil_append, fieldsGo_end x 32 _ sp32 hx.1, ih]
theorem go_len : ∀ (l cur : List UInt8), (join (fieldsGo cur l)).length ≤ cur.length + l.length + 1
  | [], cur => by cases cur <;> simp [fieldsGo, join]
  | b :: l, cur => by
    cases hb : isSp b with
    | false =>
      rw [fieldsGo_more cur b l hb]
      have := go_len l (cur ++ [b])
      simp at this ⊢
      omega
    | true =>
      by_cases he : cur = []
      · subst he
        rw [fieldsGo_sp b l hb]
        have := go_len l []
        simp at this ⊢
        omega
      · rw [fieldsGo_end cur b l hb he]
        have := go_len l []
        have e : join (cur :: fieldsGo [] l) = cur ++ ([32] ++ join (fieldsGo [] l)) := by simp [join]
        rw [e]
        simp at this ⊢
        omega
theorem join_len (l : List UInt8) : (join (fields l)).length ≤ l.length + 1 := by
  have := go_len l []
  unfold fields
  simpa using this
/-- a byte that a line may hold -/
def okB (b : UInt8) : Bool := decide (32 ≤ b.toNat ∧ b.toNat ≤ 126)
theorem okB_iff (b : UInt8) : okB b = true ↔ 32 ≤ b.toNat ∧ b.toNat ≤ 126 := by unfold okB; exact decide_eq_true_iff
theorem isSp_ok (b : UInt8) (h : okB b = true) : isSp b = decide (b.toNat = 32) := by
  have key : ∀ n : Fin 256, okB (UInt8.ofNat n.1) = true → isSp (UInt8.ofNat n.1) = decide ((UInt8.ofNat n.1).toNat = 32) := by decide +kernel
  have e : UInt8.ofNat b.toNat = b := by simp
  have := key ⟨b.toNat, b.toNat_lt⟩
  simp only [e] at this
  exact this h
/-- what SplitFields gives -/
def split (l : List UInt8) : Option (List (List UInt8)) := if l.length ≤ 600 ∧ l.all okB = true ∧ (fields l).length ≤ 24 then some (fields l) else none
theorem join_ok (l : List UInt8) (h : l.all okB = true) : (join (fields l)).all okB = true := by
  rw [List.all_eq_true] at h ⊢
  intro b hb
  unfold join at hb
  rw [List.mem_flatMap] at hb
  obtain ⟨x, hx, hb⟩ := hb
  rcases List.mem_append.1 hb with hb | hb
  · exact h b (mem_of l x hx b hb)
  · simp at hb; subst hb; decide
theorem split_again (l : List UInt8) (p : List (List UInt8)) (h : split l = some p) (hl : (join p).length ≤ 600) : split (join p) = some p := by
  unfold split at h
  split at h
  · rename_i hh
    obtain ⟨h1, h2, h3⟩ := hh
    obtain rfl := Option.some.inj h
    unfold split
    rw [fields_join _ (form l), if_pos ⟨hl, join_ok l h2, h3⟩]
  · cases h
theorem fields_len_le (l : List UInt8) : (fields l).length ≤ l.length := by
  rw [fields_length]
  have key : ∀ (l : List UInt8) (b : Bool), cntF b l ≤ l.length := by
    intro l
    induction l with
    | nil => intro b; simp [cntF]
    | cons c r ih => intro b; have := ih (isSp c); simp only [cntF, List.length_cons]; split <;> omega
  exact key l true
theorem field_len (l : List UInt8) (x : List UInt8) (hx : x ∈ fields l) : x.length ≤ l.length := by
  have h := join_len l
  have : x.length + 1 ≤ (join (fields l)).length := by
    unfold join
    generalize fields l = p at hx
    induction p with
    | nil => cases hx
    | cons y p ih =>
      rcases List.mem_cons.1 hx with h | h
      · subst h; simp
        try omega
      · have := ih h; simp at this ⊢; omega
  omega
end Go.Proofs.YtajmccnilhambaaDoor.PureSF
