/- What is proved: the table strings.asciiSpace and the table of powers of ten stay as they were laid while memory is made beside them; strings.Fields and strconv.Itoa over them. -/
import Derived.Test.YtajmccnilhambaaDoorTb
import Derived.Test.YtajmccnilhambaaDoorShelf
import Derived.Lib.AppendIntMem
namespace Go.Proofs.YtajmccnilhambaaDoor.Tb2
open Go.RowKit Go.Proofs.YtajmccnilhambaaDoorW.PrintWords Go.Proofs.YtajmccnilhambaaDoorW.PrintLast
theorem gP : Tryd.prog.globalNamed "internal/strconv.uint64pow10" = some 5 := by kernel_rfl
/-- both tables as their initialisers lay them -/
structure TB (w : World) : Prop where mk ::
  (sp : Tb.TB w)
  (p10 : Lib.TabIs Tryd.prog w "internal/strconv.uint64pow10" .u64 Lib.pow10Tab)
theorem TB.below {B : Nat} {w w' : World} (h : TB w) (hb : Below B w w') (hB : w.heap.size ≤ B) : TB w' :=
  ⟨h.sp.below hb hB, var?_below hb gP (Nat.lt_of_lt_of_le (World.block_lt_of_cell? w _ (h.p10.cell gP 0 (by rw [Lib.pow10Tab_length]; decide))) hB) h.p10⟩
theorem fields_own (a0 : ByteArray) (w : World) (hs : a0.size ≤ 600) (ha : a0.data.toList.all (fun b => decide (b.toNat < 128)) = true) (ht : TB w) :
    Calls Tryd.prog 27 #[.string a0] w fun e w' => ∃ v0_ : Value, e = .returned (v0_) ∧ Kd.R Kd.string 9 w' w.heap.size (fun _ => True) v0_ ((Lib.fields a0.data.toList).map fun l => (⟨l.toArray⟩ : ByteArray)) ∧ Below w.heap.size w w' := Tb.fields_own a0 w hs ha ht.sp
theorem itoa_calls (n : Int) (h0 : -9223372036854775808 ≤ n) (h1 : n ≤ 9223372036854775807) (w : World) (htab : TB w) :
    Calls Tryd.prog 26 #[.int .i64 n] w fun e w' => e = .returned (.string ⟨(Lib.itoa n).toArray⟩) ∧ Below w.heap.size w w' := by
  refine (Tryd.strconv_Itoa n h0 h1 w htab.p10).mono ?_
  rintro e w' ⟨rfl, k, os, rfl⟩
  exact ⟨rfl, Lib.below_grow _ w (Nat.le_refl _) k os⟩
end Go.Proofs.YtajmccnilhambaaDoor.Tb2
