/- What is proved: the table strings.asciiSpace stays as it was laid while memory is made beside it; strings.Fields gives a new row of the fields. -/
import Derived.Test.YtajmccnilhambaaDoorShelf4
import Derived.Test.YtajmccnilhambaaDoorWWords
import Derived.Test.YtajmccnilhambaaDoorWLast
import Derived.Lib.LaidTab
import Derived.Below
import Derived.WalkSmall
namespace Go.Proofs.YtajmccnilhambaaDoor.Tb
open Go.RowKit Go.Proofs.YtajmccnilhambaaDoorW.PrintWords Go.Proofs.YtajmccnilhambaaDoorW.PrintLast
theorem gSp : Tryd.prog.globalNamed "strings.asciiSpace" = some (Tryd.lays157_ren.g 0) := by kernel_rfl
/-- the table as its initialiser lays it -/
structure TB (w : World) : Prop where mk :: (out : Lib.TabIs Tryd.prog w "strings.asciiSpace" .u8 Lib.asciiSpaceTab)
theorem TB.below {B : Nat} {w w' : World} (h : TB w) (hb : Below B w w') (hB : w.heap.size ≤ B) : TB w' :=
  ⟨var?_below hb gSp (Nat.lt_of_lt_of_le (World.block_lt_of_cell? w _ (h.out.cell gSp 0 (by rw [Lib.asciiSpaceTab_length]; decide))) hB) h.out⟩
theorem own_new (w : World) (e : TypeId) (cs : List Value) (h : cs.length ≤ maxLen) : (w.alloc (.cells cs.toArray e)).ownsRow w.heap.size e 1 (.slice (some ⟨w.heap.size, 0, none⟩) cs.length cs.length) cs.length cs :=
  ⟨by simp, .inr ⟨w.heap.size, cs.length, cs.toArray, rfl, Nat.le_refl _, by simpa using heap_alloc_new w _, Nat.le_refl _, h, by simp, by simp⟩⟩
theorem fields_own (a0 : ByteArray) (w : World) (hs : a0.size ≤ 600) (ha : a0.data.toList.all (fun b => decide (b.toNat < 128)) = true) (ht : TB w) :
    Calls Tryd.prog 27 #[.string a0] w fun e w' => ∃ v0_ : Value, e = .returned (v0_) ∧ Kd.R Kd.string 9 w' w.heap.size (fun _ => True) v0_ ((Lib.fields a0.data.toList).map fun l => (⟨l.toArray⟩ : ByteArray)) ∧ Below w.heap.size w w' := by
  have hlen : (Lib.fields a0.data.toList).length ≤ 600 := by
    have h2 : ∀ (l : List UInt8) (b : Bool), Lib.cntF b l ≤ l.length := by
      intro l
      induction l with
      | nil => intro b; simp [Lib.cntF]
      | cons c r ih => intro b; have := ih (Lib.isSp c); simp only [Lib.cntF, List.length_cons]; split <;> omega
    have h3 := h2 a0.data.toList true
    rw [← Lib.fields_length] at h3
    have h4 : a0.data.toList.length = a0.size := Array.length_toList
    omega
  refine (Tryd.strings_Fields a0 w (by omega) ?_ ht.out).mono ?_
  · intro j b hb
    exact of_decide_eq_true (List.all_eq_true.1 ha b (List.mem_of_getElem? hb))
  · rintro e w' ⟨rfl, rfl⟩
    refine ⟨_, rfl, ?_, below_alloc (Below.refl _ _) _⟩
    refine Kd.R_of_own ?_ (fun _ _ => trivial)
    have hm : (600 : Nat) ≤ maxLen := by decide
    have z := own_new w 9 ((Lib.fields a0.data.toList).map fun l => Value.string ⟨l.toArray⟩) (by rw [List.length_map]; exact Nat.le_trans hlen hm)
    simp only [List.length_map] at z ⊢
    unfold encs
    rw [List.map_map]
    exact z
end Go.Proofs.YtajmccnilhambaaDoor.Tb
