/- What is proved: the card of laws.FnNumbers: ParseUint reads FormatInt's text back where it is in range, for every draw. -/
import Derived.Test.YtajmccnilhambaaDoorCards
import Derived.Test.YtajmccnilhambaaDoorTie
import Derived.Test.YtajmccnilhambaaDoorOpen
import Derived.Test.YtajmccnilhambaaDoorShelf
import Derived.Test.YtajmccnilhambaaDoorShelf3
import Derived.Test.YtajmccnilhambaaDoorXN1
import Derived.Test.YtajmccnilhambaaDoorPureFN
import Derived.WalkKit
import Derived.ProofKit
import Derived.OpenShut
import Derived.ShutString
import Derived.ChangeOld
import Derived.Below
import Derived.WalkSmall
import Derived.SizedLaws
import Derived.Deep.DeepHandedRow
import Derived.Lib.LaidTab
import Derived.Lib.AppendIntMem
import Derived.Lib.AtoiErrMem
import Derived.Stop.LaidErr
import Derived.Lib.ItoaLen
import Derived.Test.YtajmccnilhambaaDoorWSized
namespace Go.Proofs.YtajmccnilhambaaDoor.fnNumbers
open Go.ChangeShapes Go.WideShapes Go.ChangeAt Go.RowKit
open Go.Proofs.YtajmccnilhambaaDoor.XN Go.Proofs.YtajmccnilhambaaDoorW.PrintWords Go.Proofs.YtajmccnilhambaaDoorW.PrintLast
set_option linter.unusedVariables false
theorem own : ownKnob Tryd.prog.godebug = none := by kernel_rfl
theorem laidOut : laidOutB Tryd.prog = true := by kernel_rfl
theorem gTab : Tryd.prog.globalNamed "internal/strconv.uint64pow10" = some 5 := by kernel_rfl
theorem gTabType : (Tryd.prog.globals[5]?).map (·.type) = some 101 := by kernel_rfl
theorem cells101 : Tryd.prog.cellsOf 101 = 20 := by kernel_rfl
theorem cells77 : Tryd.prog.cellsOf 77 = 1 := by kernel_rfl
theorem datum : (Rows.laid_internal_strconv_uint64pow10 : DataW Unit) = Lib.tabData .u64 Lib.pow10Tab := by kernel_rfl
abbrev Tab (W : World) : Prop := Lib.TabIs Tryd.prog W "internal/strconv.uint64pow10" .u64 Lib.pow10Tab
theorem table {W : World} (h : laidMet Tryd.prog Rows.fnNumbersRow.laid W) : Tab W := by
  have h2 := laidMet.tail (laidMet.tail h)
  rw [datum] at h2
  exact Lib.tabIs_of_head (rest := _) gTab gTabType Tryd.underlying101 Tryd.underlying77 cells77 cells101 h2
theorem tab_below {B : Nat} {w w' : World} (h : Tab w) (hb : Below B w w') (hB : w.heap.size ≤ B) : Tab w' :=
  var?_below hb gTab (Nat.lt_of_lt_of_le (World.block_lt_of_cell? w _ (h.cell gTab 0 (by rw [Lib.pow10Tab_length]; decide))) hB) h
theorem fmt_calls (n : Int) (h0 : -9223372036854775808 ≤ n) (h1 : n ≤ 9223372036854775807) (w : World) (htab : Tab w) :
    Calls Tryd.prog 10 #[.int .i64 n] w fun e w' => e = .returned (.string ⟨(Lib.itoa n).toArray⟩) ∧ Below w.heap.size w w' := by
  have HT := Aside0.mk htab
  clear htab
  go_enter Tryd.func10, Tryd.ntmps10
  go_wp2_with (go_at_call 26; refine (Tryd.strconv_Itoa n h0 h1 _ HT.out).mono ?_; rintro e w' ⟨rfl, k, os, rfl⟩)
  go_ret
  exact ⟨rfl, Lib.below_grow _ w (Nat.le_refl _) k os⟩
theorem atoi_calls (n : Int) (h0 : -9223372036854775808 ≤ n) (h1 : n ≤ 9223372036854775807) (w : World) :
    Calls Tryd.prog 36 #[.string ⟨(Lib.itoa n).toArray⟩] w fun e w' => e = .returned (.tuple #[.int .i64 n, .nilIface]) ∧ Below w.heap.size w w' := by
  have hs : (⟨(Lib.itoa n).toArray⟩ : ByteArray).size ≤ 9223372036854775806 := by
    have := Lib.itoa_length_le n h0 h1
    simp [ByteArray.size]
    omega
  refine (Tryd.strconv_Atoi_ok ⟨(Lib.itoa n).toArray⟩ hs n (by simpa using PureFN.atoi_itoa n h0 h1) w).mono ?_
  rintro e w' ⟨rfl, h | ⟨t, h⟩⟩
  · subst h; exact ⟨rfl, Below.refl _ _⟩
  · subst h; exact ⟨rfl, Lib.bytesWorld_below w 5 t⟩
theorem parse_in (n : Int) (h0 : -9223372036854775808 ≤ n) (h1 : n ≤ 9223372036854775807) (w : World) (htab : Tab w) (q : 0 ≤ n ∧ n ≤ 1000000000) :
    Calls Tryd.prog 23 #[.string ⟨(Lib.itoa n).toArray⟩] w fun e w' => e = .returned (.tuple #[.int .i64 n, .bool true]) ∧ Below w.heap.size w w' := by
  have HT := Aside0.mk htab
  have HA := Aside0.mk (atoi_calls n h0 h1)
  have HF := Aside0.mk (fmt_calls n h0 h1)
  have hin : impl_inside.f n 0 1000000000 = some true := by
    unfold impl_inside.f
    by_cases q0 : 0 ≤ n
    · rw [if_pos q0]; simp; try omega
    · rw [if_neg q0]; omega
  have HI := Aside0.mk hin
  clear htab hin
  generalize (⟨(Lib.itoa n).toArray⟩ : ByteArray) = s at HA HF ⊢
  go_enter Tryd.func23, Tryd.ntmps23
  go_wp2_with (fail)
  refine (HA.out _).mono ?_
  rintro e w1 ⟨rfl, hb⟩
  have HB := Aside0.mk hb
  have HT1 := Aside0.mk (tab_below HT.out hb (Nat.le_refl _))
  clear hb HT HA
  go_wp2_with (fail)
  refine (impl_inside.calls n 0 1000000000 _ _ HI.out).mono ?_
  rintro e w2 ⟨rfl, hd⟩
  have hb : Below w1.heap.size w1 w2 := by obtain ⟨m, rfl⟩ := hd; exact pw_below_drewN (Below.refl _ _) m
  have HB2 := Aside0.mk (below_step HB.out hb)
  have HT2 := Aside0.mk (tab_below HT1.out hb (Nat.le_refl _))
  clear hd hb HB HT1 HI
  go_wp2_with (fail)
  refine (HF.out _ HT2.out).mono ?_
  rintro e w3 ⟨rfl, hb⟩
  have HB3 := Aside0.mk (below_step HB2.out hb)
  clear hb HB2 HT2 HF
  go_wp2
  all_goals go_ret2
  all_goals exact ⟨rfl, HB3.out⟩
theorem parse_out (n : Int) (h0 : -9223372036854775808 ≤ n) (h1 : n ≤ 9223372036854775807) (w : World) (htab : Tab w) (q : ¬ (0 ≤ n ∧ n ≤ 1000000000)) :
    Calls Tryd.prog 23 #[.string ⟨(Lib.itoa n).toArray⟩] w fun e w' => e = .returned (.tuple #[.int .i64 0, .bool false]) ∧ Below w.heap.size w w' := by
  have HT := Aside0.mk htab
  have HA := Aside0.mk (atoi_calls n h0 h1)
  have HF := Aside0.mk (fmt_calls n h0 h1)
  have hin : impl_inside.f n 0 1000000000 = some false := by
    unfold impl_inside.f
    by_cases q0 : 0 ≤ n
    · rw [if_pos q0]; simp; try omega
    · rw [if_neg q0]
  have HI := Aside0.mk hin
  clear htab hin
  generalize (⟨(Lib.itoa n).toArray⟩ : ByteArray) = s at HA HF ⊢
  go_enter Tryd.func23, Tryd.ntmps23
  go_wp2_with (fail)
  refine (HA.out _).mono ?_
  rintro e w1 ⟨rfl, hb⟩
  have HB := Aside0.mk hb
  have HT1 := Aside0.mk (tab_below HT.out hb (Nat.le_refl _))
  clear hb HT HA
  go_wp2_with (fail)
  refine (impl_inside.calls n 0 1000000000 _ _ HI.out).mono ?_
  rintro e w2 ⟨rfl, hd⟩
  have hb : Below w1.heap.size w1 w2 := by obtain ⟨m, rfl⟩ := hd; exact pw_below_drewN (Below.refl _ _) m
  have HB2 := Aside0.mk (below_step HB.out hb)
  have HT2 := Aside0.mk (tab_below HT1.out hb (Nat.le_refl _))
  clear hd hb HB HT1 HI
  go_wp2
  all_goals go_ret2
  all_goals exact ⟨rfl, HB2.out⟩
theorem parse_calls (n : Int) (h0 : -9223372036854775808 ≤ n) (h1 : n ≤ 9223372036854775807) (w : World) (htab : Tab w) :
    Calls Tryd.prog 23 #[.string ⟨(Lib.itoa n).toArray⟩] w fun e w' => e = .returned (.tuple #[.int .i64 (if 0 ≤ n ∧ n ≤ 1000000000 then n else 0), .bool (decide (0 ≤ n ∧ n ≤ 1000000000))]) ∧ Below w.heap.size w w' := by
  by_cases q : 0 ≤ n ∧ n ≤ 1000000000
  · rw [if_pos q, decide_eq_true q]; exact parse_in n h0 h1 w htab q
  · rw [if_neg q, decide_eq_false q]; exact parse_out n h0 h1 w htab q
theorem law_calls (A0 : Option Addr) (c0 : Nat) (l0 : List Int) (w : World) (hr0 : Kd.C (Kd.int .u8) w A0 l0.length l0) (hc0 : l0.length ≤ c0) (htab : Tab w) :
    Calls Tryd.prog 8 #[.slice A0 l0.length c0] w fun e w' => e = .returned (.bool true) ∧ Below w.heap.size w w' := by
  have HT := Aside0.mk htab
  have HR := Aside0.mk hr0
  clear htab hr0
  go_enter Tryd.func8, Tryd.ntmps8
  go_wp2_with (fail)
  refine (laws_big.calls A0 c0 l0 _ _ HR.out hc0 rfl).mono ?_
  rintro e w1 ⟨rfl, hd⟩
  have HB := Aside0.mk (show Below w.heap.size w w1 by obtain ⟨m, rfl⟩ := hd; exact pw_below_drewN (Below.refl _ _) m)
  clear hd
  by_cases hb : (l0.length : Int) > 1048576
  · rw [decide_eq_true hb]
    go_wp2
    all_goals go_ret
    all_goals exact ⟨rfl, HB.out⟩
  · rw [decide_eq_false hb]
    obtain ⟨n, hn, h0, h1⟩ := PureFN.drawN_ok l0 5000 (by omega) (by omega)
    have HN := Aside0.mk hn
    clear hn
    go_wp2_with (fail)
    refine (spec_DrawFormatInt.calls 5000 A0 c0 l0 n _ (Kd.C_below HR.out HB.out) hc0 HN.out).mono ?_
    rintro e w2 ⟨rfl, hb2⟩
    have HB2 := Aside0.mk (below_step HB.out hb2)
    have HT2 := Aside0.mk (tab_below HT.out HB2.out (Nat.le_refl _))
    clear hb2 HB HN HT HR hb
    have HF := Aside0.mk (fmt_calls n h0 h1)
    have HP := Aside0.mk (parse_calls n h0 h1)
    have HE : Aside0 ((Lib.itoa n) ≠ []) := ⟨PureFN.itoa_ne n⟩
    go_wp2_with (fail)
    refine (HF.out _ HT2.out).mono ?_
    rintro e w3 ⟨rfl, hb3⟩
    have HB3 := Aside0.mk (below_step HB2.out hb3)
    have HT3 := Aside0.mk (tab_below HT2.out hb3 (Nat.le_refl _))
    clear hb3 HB2 HT2 HF
    go_wp2_with (fail)
    refine (HP.out _ HT3.out).mono ?_
    rintro e w4 ⟨rfl, hb4⟩
    have HB4 := Aside0.mk (below_step HB3.out hb4)
    clear hb4 HB3 HT3 HP
    have hne : ¬ (⟨(Lib.itoa n).toArray⟩ : ByteArray).toList = [] := by
      intro e
      apply HE.out
      have z := congrArg List.length e
      simpa using z
    generalize (⟨(Lib.itoa n).toArray⟩ : ByteArray) = s at hne ⊢
    clear HE
    have hie : (!s.toList.isEmpty) = true := by cases e : s.toList with | nil => exact absurd e hne | cons a b => rfl
    have HIE := Aside0.mk hie
    clear hie
    by_cases q : 0 ≤ n ∧ n ≤ 1000000000
    · simp only [decide_eq_true q, if_pos q]
      obtain ⟨q1, q2⟩ := q
      go_wp2
      all_goals go_ret
      all_goals exact ⟨by show Ending.returned (Value.bool (!s.toList.isEmpty)) = _; rw [HIE.out], HB4.out⟩
    · simp only [decide_eq_false q, if_neg q]
      by_cases q1 : 0 ≤ n
      · have q2 : ¬ n ≤ 1000000000 := fun x => q ⟨q1, x⟩
        go_wp2
        all_goals go_ret
        all_goals exact ⟨by show Ending.returned (Value.bool (!s.toList.isEmpty)) = _; rw [HIE.out], HB4.out⟩
      · go_wp2
        all_goals go_ret
        all_goals exact ⟨by show Ending.returned (Value.bool (!s.toList.isEmpty)) = _; rw [HIE.out], HB4.out⟩
set_option maxRecDepth 100000 in
theorem contract (H : Type) (enc : TypeId × Value → H) (W : World) (base : Nat) (args : Array Value) (ds gs : List (DataW H)) (before : List MemPlace)
    (hval : ∀ (j : Nat) t v, Tryd.f8.params[j]? = some t → args[j]? = some v → Value.okWide Tryd.prog W .any base t v)
    (hW : DataW.Whole enc Tryd.prog Tryd.f8.params.toList Rows.fnNumbersSpec.vars false W args.toList ds gs before)
    (hsz : (DataW.weightsEach Tryd.prog (Tryd.f8.params.toList ++ Rows.fnNumbersSpec.plain.varTypes Tryd.prog) (ds ++ gs)).all (· ≤ reachBytes) = true)
    (hL : laidMetH Tryd.prog Rows.fnNumbersRow.laid W) :
    Calls Tryd.prog 8 args W fun e W' => ∃ v, e = .returned v ∧ Rows.fnNumbersSpec.post enc Tryd.prog Tryd.f8 false true false false W args v W' := by
  have hW' := hW
  obtain ⟨p, q, hA0, hV, rfl, hfz, hnd⟩ := hW
  have hA : DataW.TrodAll enc Tryd.prog W 0 (fun _ => true) true Tryd.f8.params.toList args.toList ds p := hA0
  rw [Tryd.params8] at hA hval hsz
  obtain ⟨v0, vs0, d0, ds0, p0, q0, hargs, rfl, rfl, h0, r0⟩ := trodAll_cons hA
  obtain ⟨rfl, rfl, rfl⟩ := trodAll_nil r0
  obtain rfl : args = #[v0] := by cases args; simp_all
  obtain ⟨rfl, rfl⟩ := trodVars_none hV
  have k0 := h0
  have lt0 : ∀ x ∈ p0, x.block < W.heap.size := by obtain ⟨m, hm⟩ := k0; exact DataW.trod_lt m _ _ _ hm
  have y0 : ∀ {len cap : Nat} {a : Option Addr}, v0 = .slice a len cap → len * 1 ≤ 140737488351232 := by rintro len cap a rfl; exact Go.Proofs.YtajmccnilhambaaDoorW.PrintWords.sized_ints hsz (j := 0) (t := 30) rfl rfl Tryd.underlying30 Tryd.underlying5 (by kernel_rfl) (by kernel_rfl) h0
  obtain ⟨A0, c0, l0, e0, hr0, hm0, hw0, hc0⟩ := Opn.slInts Tryd.underlying30 Tryd.underlying5 (by kernel_rfl) (hval 0 30 v0 rfl rfl) h0
  have yz0 := y0 e0
  clear y0
  subst e0
  clear hA0 hsz
  refine (law_calls A0 c0 l0 W hr0 hc0 (table hL)).mono fun e W' ⟨he, bel⟩ => ?_
  subst he
  exact ⟨_, rfl, _, _, _, [], _, [], hW', trodAll_mk1 (shut_bool Tryd.underlying4 _), (trodAll_cons_mk (Below.trod laidOut (by kernel_rfl) (of_decide_eq_true (by kernel_rfl)) k0 bel lt0) trodAll_mk0), rfl, bel.frame _, fun h => by cases h⟩
/-- a world for the witness: the settled one, the three tables holding what their initialisers lay -/
noncomputable def laidWorld (os : Os) : World :=
  let h0 := (World.holding Tryd.prog os ⟨#[], #[], []⟩).heap
  let put (h : Array Obj) (g : Nat) (cs : Array Value) : Array Obj := h.modify g fun
      | .cells _ t frozen => .cells cs t frozen
      | o => o
  { World.holding Tryd.prog os ⟨#[], #[], []⟩ with heap := (put (put (put (put (put h0 5 #[.int .u64 1, .int .u64 10, .int .u64 100, .int .u64 1000, .int .u64 10000, .int .u64 100000, .int .u64 1000000, .int .u64 10000000, .int .u64 100000000, .int .u64 1000000000, .int .u64 10000000000, .int .u64 100000000000, .int .u64 1000000000000, .int .u64 10000000000000, .int .u64 100000000000000, .int .u64 1000000000000000, .int .u64 10000000000000000, .int .u64 100000000000000000, .int .u64 1000000000000000000, .int .u64 10000000000000000000])
    6 #[.int .u8 0, .int .u8 1, .int .u8 28, .int .u8 2, .int .u8 29, .int .u8 14, .int .u8 24, .int .u8 3, .int .u8 30, .int .u8 22, .int .u8 20, .int .u8 15, .int .u8 25, .int .u8 17, .int .u8 4, .int .u8 8, .int .u8 31, .int .u8 27, .int .u8 13, .int .u8 23, .int .u8 21, .int .u8 19, .int .u8 16, .int .u8 7, .int .u8 26, .int .u8 12, .int .u8 18, .int .u8 6, .int .u8 11, .int .u8 5, .int .u8 10, .int .u8 9]) 7 #[.int .u8 0, .int .u8 1, .int .u8 56, .int .u8 2, .int .u8 57, .int .u8 49, .int .u8 28, .int .u8 3, .int .u8 61, .int .u8 58, .int .u8 42, .int .u8 50, .int .u8 38, .int .u8 29, .int .u8 17, .int .u8 4, .int .u8 62, .int .u8 47, .int .u8 59, .int .u8 36, .int .u8 45, .int .u8 43, .int .u8 51, .int .u8 22, .int .u8 53, .int .u8 39, .int .u8 33, .int .u8 30, .int .u8 24, .int .u8 18, .int .u8 12, .int .u8 5, .int .u8 63, .int .u8 55, .int .u8 48, .int .u8 27, .int .u8 60, .int .u8 41, .int .u8 37, .int .u8 16, .int .u8 46, .int .u8 35, .int .u8 44, .int .u8 21, .int .u8 52, .int .u8 32, .int .u8 23, .int .u8 11, .int .u8 54, .int .u8 26, .int .u8 40, .int .u8 15, .int .u8 34, .int .u8 20, .int .u8 31, .int .u8 10, .int .u8 25, .int .u8 14, .int .u8 19, .int .u8 9, .int .u8 13, .int .u8 8, .int .u8 7, .int .u8 6]) 4 #[.iface 108 (.pointer (some ⟨h0.size, 0, none⟩))]) 3 #[.iface 108 (.pointer (some ⟨h0.size + 1, 0, none⟩))]) ++ #[.cells #[.string ⟨#[118, 97, 108, 117, 101, 32, 111, 117, 116, 32, 111, 102, 32, 114, 97, 110, 103, 101]⟩] 110 (0, 0), .cells #[.string ⟨#[105, 110, 118, 97, 108, 105, 100, 32, 115, 121, 110, 116, 97, 120]⟩] 110 (0, 0)] }
set_option maxRecDepth 100000 in
theorem laid_met (os : Os) : laidMet Tryd.prog Rows.fnNumbersRow.laid ((laidWorld os).forCall (fun _ _ => 0) ⟨#[], #[.slice none 0 0], []⟩).memory :=
  laidMet_of_run' 8 (by kernel_rfl) (by kernel_rfl)
set_option maxRecDepth 100000 in
theorem reads (os : Os) {H : Type} (enc : TypeId × Value → H) : ∃ places, DataW.whole enc Tryd.prog ((laidWorld os).forCall (fun _ _ => 0) ⟨#[], #[.slice none 0 0], []⟩).memory Tryd.f8.params.toList Rows.fnNumbersSpec.vars false #[Value.slice none 0 0].toList 8 = some ([.nil], [], places) :=
  ⟨[], by kernel_rfl⟩
set_option maxRecDepth 100000 in
theorem lifted (os : Os) (started : os.Started) (H : Type) (enc : TypeId × Value → H) (F : Stop.Interp) :
    ReturnsInHanded {} Tryd.checked os 8 .any ((OpenSpec.ofChange Rows.fnNumbersSpec).preRow enc Tryd.prog Tryd.f8 Rows.fnNumbersRow.domain false Rows.fnNumbersRow.laid) (((OpenSpec.ofChange Rows.fnNumbersSpec).at F).post enc Tryd.prog Tryd.f8 false true false false) := by
  obtain ⟨places, hx⟩ := reads os enc
  refine returnsInHanded_of_row (C := Tryd.checked) (s := OpenSpec.ofChange Rows.fnNumbersSpec) own started (by kernel_rfl) Tryd.func8
    (witness_row_at (enc := enc) (C := Tryd.checked) false (laidWorld os) #[.slice none 0 0] rfl (by kernel_rfl) (by kernel_rfl) (by kernel_rfl)
      (OpenSpec.preRow_of_cond 8 hx (by kernel_rfl) (fun k hk => by cases hk) (by kernel_rfl) (laid_met os))) ?_
  intro W base args ds gs before hval hW _ _ hsz hL _ _
  exact contract H enc W base args ds gs before hval hW hsz hL
theorem said : Rows.FnNumbersSaid :=
  OpenClaim.holds_of_cond 8 Tryd.f8 rfl rfl rfl rfl rfl rfl rfl ⟨rfl, rfl, rfl, rfl, rfl⟩ rfl rfl rfl rfl rfl (by kernel_rfl) Tryd.func8 (by kernel_rfl)
    (of_decide_eq_true (by kernel_rfl)) (by unfold Func.isWrapper; first | (rw [if_pos (by decide +kernel)]; kernel_rfl) | (rw [if_neg (by decide +kernel)]; exact ⟨rfl, rfl⟩))
    (fun os started H enc _ F => by rw [OpenClaim.pre_eq_preRow]; exact lifted os started H enc F)
theorem plain (f : FuncId) (fn : Func) (hf : Tryd.pinned.checked.prog.funcNamed "loop.example/g00984/laws.FnNumbers" = some f) (hfn : Tryd.pinned.checked.prog.funcs[f]? = some fn) :
    true = Tryd.pinned.checked.prog.looks [] ∧ ∀ (j : Nat) t, fn.params[j]? = some t → Tryd.pinned.checked.prog.wantsStandIn t = false := by
  obtain rfl : f = 8 := Option.some.inj ((show Tryd.prog.funcNamed "loop.example/g00984/laws.FnNumbers" = some 8 by kernel_rfl).symm.trans hf) |>.symm
  obtain rfl : fn = Tryd.f8 := (Option.some.inj (Tryd.func8.symm.trans hfn)).symm
  refine ⟨by kernel_rfl, fun j t ht => ?_⟩
  rw [Tryd.params8] at ht
  obtain rfl : t = 30 := by simpa using Array.mem_of_getElem? ht
  exact (show Tryd.prog.wantsStandIn 30 = false by kernel_rfl)
theorem card : Rows.FnNumbersCardSaid :=
  Claim7.holds_tied_plain_at .later [] _ _ _ _ said (fun _ h => by cases h) (by kernel_rfl) (fun _ h => by cases h) fnNumbers_row_tie rfl ⟨rfl, rfl⟩ (by kernel_rfl) rfl plain (by kernel_rfl)
end Go.Proofs.YtajmccnilhambaaDoor.fnNumbers
namespace Go.Proofs.YtajmccnilhambaaDoor
/-- The card, under a short name, for the claim. -/
theorem fnNumbers_card_holds : Rows.FnNumbersCardSaid := fnNumbers.card
end Go.Proofs.YtajmccnilhambaaDoor
