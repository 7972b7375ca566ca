/- What is proved: the table of powers of ten and the two sentinels of strconv stay as they were laid while memory is made beside them; the program's ParseUint, at every string: the number whose decimal text the string is, if that is from 0 to a thousand million. -/
import Derived.Test.YtajmccnilhambaaDoorShelf
import Derived.Test.YtajmccnilhambaaDoorShelf5
import Derived.Test.YtajmccnilhambaaDoorPureDG
import Derived.Test.YtajmccnilhambaaDoorWWords
import Derived.Test.YtajmccnilhambaaDoorWLast
import Derived.Lib.LaidTab
import Derived.Lib.AppendIntMem
import Derived.Lib.AtoiErrMem
import Derived.Lib.AtoiAllCases
import Derived.Stop.LaidErr
import Derived.Below
import Derived.WalkKit
import Derived.WalkSmall
import Derived.Laws.Strings
namespace Go.Proofs.YtajmccnilhambaaDoor.Tb3
open Go.RowKit Go.Proofs.YtajmccnilhambaaDoorW.PrintWords Go.Proofs.YtajmccnilhambaaDoorW.PrintLast
set_option linter.unusedVariables false
theorem gP : Tryd.prog.globalNamed "internal/strconv.uint64pow10" = some 5 := by kernel_rfl
theorem gS : Tryd.prog.globalNamed "strconv.ErrSyntax" = some 3 := by kernel_rfl
theorem gR : Tryd.prog.globalNamed "strconv.ErrRange" = some 4 := by kernel_rfl
/-- the table and the sentinels as their initialisers lay them -/
structure TB (w : World) : Prop where mk ::
  (p10 : Lib.TabIs Tryd.prog w "internal/strconv.uint64pow10" .u64 Lib.pow10Tab)
  (syn : ∃ tp p, w.var? Tryd.prog "strconv.ErrSyntax" = some #[.iface tp p])
  (rng : ∃ tp p, w.var? Tryd.prog "strconv.ErrRange" = some #[.iface tp p])
theorem var_lt {w : World} {n : String} {g : Nat} {x : Value} (hg : Tryd.prog.globalNamed n = some g) (h : w.var? Tryd.prog n = some #[x]) : g < w.heap.size :=
  World.block_lt_of_cell? w _ (by have h0 := World.var?_cell hg h 0; simpa using h0)
theorem TB.below {B : Nat} {w w' : World} (h : TB w) (hb : Below B w w') (hB : w.heap.size ≤ B) : TB w' := by
  obtain ⟨h1, ⟨t1, p1, h2⟩, ⟨t2, p2, h3⟩⟩ := h
  exact ⟨var?_below hb gP (Nat.lt_of_lt_of_le (World.block_lt_of_cell? w _ (h1.cell gP 0 (by rw [Lib.pow10Tab_length]; decide))) hB) h1,
    ⟨t1, p1, var?_below hb gS (Nat.lt_of_lt_of_le (var_lt gS h2) hB) h2⟩, ⟨t2, p2, var?_below hb gR (Nat.lt_of_lt_of_le (var_lt gR h3) hB) h3⟩⟩
theorem itoa_calls (n : Int) (h0 : -9223372036854775808 ≤ n) (h1 : n ≤ 9223372036854775807) (w : World) (htab : TB w) :
    Calls Tryd.prog 26 #[.int .i64 n] w fun e w' => e = .returned (.string ⟨(Lib.itoa n).toArray⟩) ∧ Below w.heap.size w w' := by
  refine (Tryd.strconv_Itoa n h0 h1 w htab.p10).mono ?_
  rintro e w' ⟨rfl, k, os, rfl⟩
  exact ⟨rfl, Lib.below_grow _ w (Nat.le_refl _) k os⟩
theorem fmt_calls (n : Int) (h0 : -9223372036854775808 ≤ n) (h1 : n ≤ 9223372036854775807) (w : World) (htab : TB w) :
    Calls Tryd.prog 10 #[.int .i64 n] w fun e w' => e = .returned (.string ⟨(Lib.itoa n).toArray⟩) ∧ Below w.heap.size w w' := by
  have HT := Aside0.mk htab.p10
  clear htab
  go_enter Tryd.func10, Tryd.ntmps10
  go_wp2_with (go_at_call 26; refine (Tryd.strconv_Itoa n h0 h1 _ HT.out).mono ?_; rintro e w' ⟨rfl, k, os, rfl⟩)
  go_ret
  exact ⟨rfl, Lib.below_grow _ w (Nat.le_refl _) k os⟩
/-- how Atoi ends -/
def AtoiEnd (s : ByteArray) (w : World) (e : Ending) (w' : World) : Prop :=
  Below w.heap.size w w' ∧ ((∃ v, Lib.atoiAll s.data.toList = .ok v ∧ e = .returned (.tuple #[.int .i64 v, .nilIface])) ∨ ((∀ v, Lib.atoiAll s.data.toList ≠ .ok v) ∧ ∃ (n : Int) (t : TypeId) (N : Nat), e = .returned (.tuple #[.int .i64 n, .iface t (.pointer (some ⟨N, 0, none⟩))])))
theorem atoi_calls (s : ByteArray) (hs : s.size ≤ 281474976710656) (w : World) (htab : TB w) : Calls Tryd.prog 36 #[.string s] w (AtoiEnd s w) := by
  obtain ⟨h1, ⟨t1, p1, h2⟩, ⟨t2, p2, h3⟩⟩ := htab
  cases h : Lib.atoiAll s.data.toList with
  | ok v =>
    refine (Tryd.strconv_Atoi_ok s (by omega) v h w).mono ?_
    rintro e w' ⟨rfl, q | ⟨t, q⟩⟩
    · subst q; exact ⟨Below.refl _ _, .inl ⟨v, h, rfl⟩⟩
    · subst q; exact ⟨Lib.bytesWorld_below w 5 t, .inl ⟨v, h, rfl⟩⟩
  | range =>
    refine (Tryd.strconv_Atoi_range_var s hs h t2 p2 w h3).mono ?_
    rintro e w' ⟨N, rfl, _, _, hb⟩
    exact ⟨hb, .inr ⟨(fun v hv => by rw [h] at hv; cases hv), _, _, _, rfl⟩⟩
  | _ =>
    have c : Calls Tryd.prog 36 #[.string s] w fun e w' => ∃ N, e = .returned (.tuple #[.int .i64 0, .iface 73 (.pointer (some ⟨N, 0, none⟩))]) ∧ w.heap.size ≤ N ∧ w'.heap[N]? = some (.cells #[.string ⟨#[65, 116, 111, 105]⟩, .string s, .iface t1 p1] 97 (0, 0)) ∧ Below w.heap.size w w' := Any.strconv_Atoi_syntax_var Tryd.laysC172 s hs h t1 p1 w h2
    refine c.mono ?_
    rintro e w' ⟨N, rfl, _, _, hb⟩
    exact ⟨hb, .inr ⟨(fun v hv => by rw [h] at hv; cases hv), _, _, _, rfl⟩⟩
end Go.Proofs.YtajmccnilhambaaDoor.Tb3
