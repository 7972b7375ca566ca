/- What is proved: contracts of functions of the program (each: where its Lean function answers, the call returns that answer); written by a program of this session. -/
import Derived.Test.YtmfkgnfjjfnfmaaXE0
import Derived.Test.YtmfkgnfjjfnfmaaXE1
import Derived.Test.YtmfkgnfjjfnfmaaXE3
import Derived.Test.YtmfkgnfjjfnfmaaXE4
import Derived.Test.YtmfkgnfjjfnfmaaXE5
namespace Go.Proofs.Ytmfkgnfjjfnfmaa.XE
open Go.RowKit Go.Proofs.YtmfkgnfjjfnfmaaW.PrintWords Go.Proofs.YtmfkgnfjjfnfmaaW.PrintLast Go.Proofs.YtmfkgnfjjfnfmaaW.PrintMore
attribute [local go_sem] qbz qbx qcc qcb qbu qbt qby qbw   -- for this text's walks alone
set_option linter.unusedVariables false
set_option linter.unusedSimpArgs false

/-! ### laws_FnDepends: function 12 -/
def laws_FnDepends.l0 : Nat → List (S83) → Int → Int → Int → List Int → Option (Bool)
 | 0, _, _, _, _, _ => none
 | k + 1, x5, x6, x282000, x282001, x282002 => if x6 < (x5.length : Int) then (if 0 ≤ x6 then ((impl_NextNode.f x282000 x282001 (wrap64 (Int.tdiv ((rd_T83 x5 x6).f0) 4)) (Int.tmod ((rd_T83 x5 x6).f0) 4)).bind fun t290 => (if (wrap64 (Int.tdiv ((rd_T83 x5 x6).f1) 4)) = t290 then ((impl_SuccessorsOf.f k x5 ((rd_T83 x5 x6).f0)).bind fun t292 => ((laws_has.f k t292 ((rd_T83 x5 x6).f1)).bind fun t296 => (if t296 = true then (laws_FnDepends.l0 k x5 (wrap64 (x6 + 1)) x282000 x282001 x282002) else (some false)))) else (some false))) else (none)) else ((impl_DependsOk.f k x5).bind fun t286 => (some t286))
def laws_FnDepends.f (k : Nat) (l0 : List Int) : Option (Bool) := (laws_big.f l0).bind fun t272 => (if t272 = true then (some true) else ((spec_DrawTable.f k l0).bind fun bt273 => ((impl_DependsOf.f k bt273.1 bt273.2.1 bt273.2.2.1 bt273.2.2.2).bind fun t283 => (laws_FnDepends.l0 k t283 0 bt273.1 bt273.2.1 bt273.2.2.1))))
theorem laws_FnDepends.mono_l : ∀ k, (∀ y0 y1 y2 y3 y4, LeO (laws_FnDepends.l0 k y0 y1 y2 y3 y4) (laws_FnDepends.l0 (k + 1) y0 y1 y2 y3 y4))
 | 0 => fun _ _ _ _ _ r h => by simp [laws_FnDepends.l0] at h
 | k + 1 => by
  have ih0 := laws_FnDepends.mono_l k
  ·intro y0 y1 y2 y3 y4
   unfold laws_FnDepends.l0
   repeat' first
   | (with_reducible exact ih0 _ _ _ _ _)
   | (with_reducible exact impl_DependsOf.mono _ _ _ _ _)
   | (with_reducible exact impl_DependsOk.mono _ _)
   | (with_reducible exact impl_SuccessorsOf.mono _ _ _)
   | (with_reducible exact laws_has.mono _ _ _)
   | (with_reducible exact spec_DrawTable.mono _ _)
   | (with_reducible exact LeO.refl _)
   | (with_reducible exact LeO.none _)
   | (with_reducible refine LeO.ite ?_ ?_)
   | (with_reducible refine LeO.bind ?_ (fun _ => ?_))
   | exact ih0 _ _ _ _ _
   | exact impl_DependsOf.mono _ _ _ _ _
   | exact impl_DependsOk.mono _ _
   | exact impl_SuccessorsOf.mono _ _ _
   | exact laws_has.mono _ _ _
   | exact spec_DrawTable.mono _ _
   | exact LeO.none _
   | refine LeO.ite ?_ ?_
   | refine LeO.bind ?_ (fun _ => ?_)
theorem laws_FnDepends.mono : ∀ a0 k, LeO (laws_FnDepends.f k a0) (laws_FnDepends.f (k + 1) a0) := by
 intro a0 k
 have ih0 := laws_FnDepends.mono_l k
 unfold laws_FnDepends.f
 repeat' first
   | (with_reducible exact ih0 _ _ _ _ _)
   | (with_reducible exact impl_DependsOf.mono _ _ _ _ _)
   | (with_reducible exact impl_DependsOk.mono _ _)
   | (with_reducible exact impl_SuccessorsOf.mono _ _ _)
   | (with_reducible exact laws_has.mono _ _ _)
   | (with_reducible exact spec_DrawTable.mono _ _)
   | (with_reducible exact LeO.refl _)
   | (with_reducible exact LeO.none _)
   | (with_reducible refine LeO.ite ?_ ?_)
   | (with_reducible refine LeO.bind ?_ (fun _ => ?_))
   | exact ih0 _ _ _ _ _
   | exact impl_DependsOf.mono _ _ _ _ _
   | exact impl_DependsOk.mono _ _
   | exact impl_SuccessorsOf.mono _ _ _
   | exact laws_has.mono _ _ _
   | exact spec_DrawTable.mono _ _
   | exact LeO.none _
   | refine LeO.ite ?_ ?_
   | refine LeO.bind ?_ (fun _ => ?_)
def laws_FnDepends.T8 : Bool × List (List Nat × List Nat) := (true, [([], []), ([], []), ([0, 1], [0, 1]), ([2], [2]), ([3], [3]), ([4], [4]), ([], []), ([6], [6]), ([], []), ([], []), ([8, 9], [8, 9]), ([10], [10]), ([11], [11]), ([12], [12]), ([], []), ([], []), ([14, 15], [14, 15]), ([16], [16]), ([17], [17]), ([18], [18]), ([7, 13, 19], [7, 13, 19]), ([5, 20], [5, 20]), ([21, 20], [21]), ([22], [22]), ([22], [22]), ([22], [22]), ([24, 25, 22], [22, 24, 25]), ([26, 22], [22, 26]), ([27, 22], [22, 27]), ([23, 28, 22, 22], [22, 23, 28]), ([22], [22]), ([22], [22]), ([30, 31, 22], [22, 30, 31]), ([32, 22], [22, 32]), ([33, 22], [22, 33]), ([29, 34, 29, 22], [22, 29, 34]), ([35, 22], [22, 35]), ([22, 36], [22, 36])])
def laws_FnDepends.B8 : List Nat := [0, 0, 3, 7, 15, 31, 0, 64, 0, 0, 768, 1792, 3840, 7936, 0, 0, 49152, 114688, 245760, 507904, 1048512, 2097151, 4194303, 8388607, 8388607, 8388607, 58720255, 125829119, 260046847, 536870911, 8388607, 8388607, 3229614079, 7524581375, 16114515967, 34359738367, 68719476735, 137438953471]
theorem laws_FnDepends.tab8 : rtab .any (opsOf Try.f12 8) = laws_FnDepends.T8 := by kernel_rfl
theorem laws_FnDepends.bits8 : waitsOk laws_FnDepends.T8.2 laws_FnDepends.B8 = true := by kernel_rfl
set_option maxHeartbeats 8000000 in
set_option maxRecDepth 100000 in
theorem laws_FnDepends.calls (k : Nat) (A0 : Option Addr) (c0 : Nat) (l0 : List Int) (r : Bool) (w : World) (hr0 : Kd.C (Kd.int .u8) w A0 l0.length l0) (hc0 : l0.length ≤ c0) (hrt0 : r = true) (h : laws_FnDepends.f k l0 = some r) :
  Calls Try.prog 12 #[.slice A0 l0.length c0] w fun e w' => e = .returned (.bool r) ∧ Below w.heap.size w w' := by
 have hu34 := Try.underlying34
 have hu36 := Try.underlying36
 have hu32 := Try.underlying32
 have HRT := qad.mk hrt0
 clear hrt0
 have HR0 := qad.mk hr0
 have HC0 := qad.mk hc0
 clear hr0 hc0
 have HB := qad.mk (Below.refl w.heap.size w)
 have H : ((laws_big.f l0).bind fun t272 => (if t272 = true then (some true) else ((spec_DrawTable.f k l0).bind fun bt273 => ((impl_DependsOf.f k bt273.1 bt273.2.1 bt273.2.2.1 bt273.2.2.2).bind fun t283 => (laws_FnDepends.l0 k t283 0 bt273.1 bt273.2.1 bt273.2.2.1))))) = some r := h
 clear h
 replace H := Option.bind_eq_some_iff.mp H
 obtain ⟨t272, A20, H⟩ := H
 try dsimp only at H
 have A2 := qad.mk A20
 clear A20
 by_cases c3 : t272 = true
 ·subst c3
  have H1 := H
  rw [if_pos rfl] at H1
  clear H
  have H := H1
  clear H1
  obtain rfl := Option.some.inj H
  go_enter Try.func12, Try.ntmps12
  go_wp2_with (first | ((with_reducible refine qan (f := 40) rfl ?_); refine qaw (some 8) rfl rfl Try.func40 (by kernel_rfl) rfl #[.slice A0 l0.length c0] rfl (by (try simp only [List.map_toArray, List.map_cons, List.map_nil]); first | done | rfl | (simp only [List.length_drop, List.length_take]; rfl)) ?_; (with_reducible refine (laws_big.calls _ _ l0 true _ ?side1 ?side2 A2.out).mono ?_); (case side1 => repeat (first | exact HR0.out | (with_reducible first | refine Kd.qbb ?_ _ | refine Kd.qba ?_ _ | refine Kd.qbh ?_))); (case side2 => exact HC0.out); rintro e w' ⟨rfl, ⟨nd, rfl⟩⟩; refine ⟨_, rfl, ?_⟩))
  go_ret
  exact ⟨by first | rfl | (simp [errW_none, errW_some] <;> rfl) | (simp [*, errW_none, errW_some] <;> rfl), by repeat (first | (with_reducible first | exact HB.out | apply qac | apply qaa | apply qab) | exact HB.out)⟩
 ·replace c3 := Bool.eq_false_iff.mpr c3
  subst c3
  have H1 := H
  rw [if_neg (show ¬ (false = true) by decide)] at H1
  clear H
  have H := H1
  clear H1
  replace H := Option.bind_eq_some_iff.mp H
  obtain ⟨⟨t273, t274, t275, t278⟩, A40, H⟩ := H
  try dsimp only at H
  have A4 := qad.mk A40
  clear A40
  replace H := Option.bind_eq_some_iff.mp H
  obtain ⟨t283, A50, H⟩ := H
  try dsimp only at H
  have A5 := qad.mk A50
  clear A50
  have H' := qad.mk H
  clear H
  go_enter Try.func12, Try.ntmps12
  go_wp2_with (first | ((with_reducible refine qan (f := 40) rfl ?_); refine qaw (some 8) rfl rfl Try.func40 (by kernel_rfl) rfl #[.slice A0 l0.length c0] rfl (by (try simp only [List.map_toArray, List.map_cons, List.map_nil]); first | done | rfl | (simp only [List.length_drop, List.length_take]; rfl)) ?_; (with_reducible refine (laws_big.calls _ _ l0 false _ ?side1 ?side2 A2.out).mono ?_); (case side1 => repeat (first | exact HR0.out | (with_reducible first | refine Kd.qbb ?_ _ | refine Kd.qba ?_ _ | refine Kd.qbh ?_))); (case side2 => exact HC0.out); rintro e w' ⟨rfl, ⟨nd, rfl⟩⟩; refine ⟨_, rfl, ?_⟩) | ((with_reducible refine qan (f := 50) rfl ?_); refine qaw (some 11) rfl rfl Try.func50 (by kernel_rfl) rfl #[.slice A0 l0.length c0] rfl (by (try simp only [List.map_toArray, List.map_cons, List.map_nil]); first | done | rfl | (simp only [List.length_drop, List.length_take]; rfl)) ?_; (with_reducible refine (spec_DrawTable.calls k _ _ l0 t273 t274 t275 t278 _ ?side1 ?side2 A4.out).mono ?_); (case side1 => repeat (first | exact HR0.out | (with_reducible first | refine Kd.qbb ?_ _ | refine Kd.qba ?_ _ | refine Kd.qbh ?_))); (case side2 => exact HC0.out); rintro e w6 ⟨v276, v279, rfl, ho0, ho1, hb⟩; refine ⟨_, rfl, ?_⟩; have n0_ := qad.mk (Kd.qbv ho0 (qal (by repeat (first | (with_reducible first | exact HB.out | apply qac | apply qaa | apply qab) | exact HB.out)))); have n1_ := qad.mk (Kd.qbv ho1 (qal (by repeat (first | (with_reducible first | exact HB.out | apply qac | apply qaa | apply qab) | exact HB.out)))); have n2_ := qad.mk (qak (by repeat (first | (with_reducible first | exact HB.out | apply qac | apply qaa | apply qab) | exact HB.out)) hb); clear HB; have HO277 := n0_; have HO280 := n1_; have HB := n2_; clear n0_ n1_ n2_; (try clear hb); (try clear hb2); (try clear hk); (try clear hi); (try clear ho0); (try clear ho1)) | ((with_reducible refine qap (N := 3) rfl ?_); refine qao ?hg (N := 3) ?hd (cs := #[.int .i64 0, .int .i64 0, .slice none 0 0]) (t := 34) ?hr ?_; (case hd => rfl); (case hg => rfl); (case hr => first | (go_simp; done) | (go_simp; rfl)); intro gb281 hg w7 hbox hb; have n0_ := qad.mk (Kd.qbe (by (with_reducible repeat (first | apply Kd.qau | apply Kd.qat | apply Kd.qax)); exact HO277.out) hb); have n1_ := qad.mk (Kd.qbe (by (with_reducible repeat (first | apply Kd.qau | apply Kd.qat | apply Kd.qax)); exact HO280.out) hb); have n2_ := qad.mk (qak (by repeat (first | (with_reducible first | exact HB.out | apply qac | apply qaa | apply qab) | exact HB.out)) hb); have n3_ := qad.mk (hbox); have n4_ := qad.mk ((by rw [hg]; exact (qal (by repeat (first | (with_reducible first | exact HB.out | apply qac | apply qaa | apply qab) | exact HB.out))) : w.heap.size ≤ gb281)); have n5_ := qad.mk ((by rw [hg]; exact (qal (by repeat (first | (with_reducible first | exact HB.out | apply qac | apply qaa | apply qab) | exact HB.out))) : w.heap.size ≤ gb281)); clear HO277; clear HO280; clear HB; have HO277 := n0_; have HO280 := n1_; have HB := n2_; have BK281 := n3_; have GW281 := n4_; have GE281 := n5_; clear n0_ n1_ n2_ n3_ n4_ n5_; clear hb hbox hg) | ((with_reducible refine qap (N := 4) rfl ?_); refine qao ?hg (N := 4) ?hd (cs := #[.slice none 0 0]) (t := 36) ?hr ?_; (case hd => rfl); (case hg => rfl); (case hr => first | (go_simp; done) | (go_simp; rfl)); intro gb282 hg w8 hbox hb; have n0_ := qad.mk (Kd.qbe (by (with_reducible repeat (first | apply Kd.qau | apply Kd.qat | apply Kd.qax)); exact HO277.out) hb); have n1_ := qad.mk (Kd.qbe (by (with_reducible repeat (first | apply Kd.qau | apply Kd.qat | apply Kd.qax)); exact HO280.out) hb); have n2_ := qad.mk (qam (g := gb281) (o := .cells #[.int .i64 0, .int .i64 0, .slice none 0 0] 34 (0, 0)) (by (with_reducible repeat (first | refine qai ?_ _ | refine qaj ?_ | refine qah ?_ _)); exact BK281.out) hb); have n3_ := qad.mk (qak (by repeat (first | (with_reducible first | exact HB.out | apply qac | apply qaa | apply qab | refine qaf ?_ GE281.out) | exact HB.out)) hb); have n4_ := qad.mk (hbox); have n5_ := qad.mk ((by rw [hg]; exact (qal (by repeat (first | (with_reducible first | exact HB.out | apply qac | apply qaa | apply qab | refine qaf ?_ GE281.out) | exact HB.out))) : w.heap.size ≤ gb282)); have n6_ := qad.mk ((by rw [hg]; exact (qal (by repeat (first | (with_reducible first | exact HB.out | apply qac | apply qaa | apply qab | refine qaf ?_ GE281.out) | exact HB.out))) : w.heap.size ≤ gb282)); have n7_ := qad.mk ((by rw [hg]; exact Nat.ne_of_lt (qbi (g := gb281) (o := .cells #[.int .i64 0, .int .i64 0, .slice none 0 0] 34 (0, 0)) (by (with_reducible repeat (first | refine qai ?_ _ | refine qaj ?_ | refine qah ?_ _)); exact BK281.out)) : gb281 ≠ gb282)); have n8_ := qad.mk ((by rw [hg]; exact Nat.ne_of_gt (qbi (g := gb281) (o := .cells #[.int .i64 0, .int .i64 0, .slice none 0 0] 34 (0, 0)) (by (with_reducible repeat (first | refine qai ?_ _ | refine qaj ?_ | refine qah ?_ _)); exact BK281.out)) : gb282 ≠ gb281)); clear HO277; clear HO280; clear BK281; clear HB; have HO277 := n0_; have HO280 := n1_; have BK281 := n2_; have HB := n3_; have BK282 := n4_; have GW282 := n5_; have GE282 := n6_; have NB281_282 := n7_; have NB282_281 := n8_; clear n0_ n1_ n2_ n3_ n4_ n5_ n6_ n7_ n8_; clear hb hbox hg; have hnb9 := NB281_282.out; have hnc9 := NB282_281.out; have hcz10_0 : w8.cell? ⟨gb281, 0, none⟩ = some (.int .i64 0) := (qag BK281.out 0).trans rfl; have hcz10_1 : w8.cell? ⟨gb281, 1, none⟩ = some (.int .i64 0) := (qag BK281.out 1).trans rfl; have hcz10_2 : w8.cell? ⟨gb281, 2, none⟩ = some (.slice none 0 0) := (qag BK281.out 2).trans rfl; have hfz10_0 := qae BK281.out 0; have hfz10_1 := qae BK281.out 1; have hfz10_2 := qae BK281.out 2; obtain ⟨Ao11, co11, eo11⟩ := Kd.qbq HO277.out; subst eo11; obtain ⟨Ao12, co12, eo12⟩ := Kd.qbq HO280.out; subst eo12; have hcz13_0 : w8.cell? ⟨gb282, 0, none⟩ = some (.slice none 0 0) := (qag BK282.out 0).trans rfl; have hfz13_0 := qae BK282.out 0) | ((with_reducible refine qan (f := 32) rfl ?_); refine qaw (some 16) rfl rfl Try.func32 (by kernel_rfl) rfl #[.agg #[.int .i64 t273, .int .i64 t274, .slice Ao11 t275.length co11], .agg #[.slice Ao12 t278.length co12]] rfl (by (try simp only [List.map_toArray, List.map_cons, List.map_nil]); first | done | rfl | (simp only [List.length_drop, List.length_take]; rfl)) ?_; (with_reducible refine (impl_DependsOf.calls k t273 t274 _ _ t275 _ _ t278 t283 _ ?side1 ?side2 ?side3 ?side4 A5.out).mono ?_); (case side1 => refine (Kd.qbd (e := 3) (base := w.heap.size) (ok := fun k_ => some k_ ≠ (.slice Ao12 t278.length co12 : Value).ownBlock) (n := t275.length) (c := co11) ?_).2.2; exact (by (with_reducible repeat (first | apply Kd.qau | apply Kd.qat | apply Kd.qax)); exact (Kd.qbl (Kd.qbl (Kd.R_far (p := ⟨gb282, 0, none⟩) (Kd.R_far (p := ⟨gb281, 2, none⟩) (Kd.R_far (p := ⟨gb281, 1, none⟩) (Kd.R_far (p := ⟨gb281, 0, none⟩) (Kd.qbk (Kd.qbk HO277.out BK281.out (by decide)) BK282.out (by decide)) (fun _ hk => by first | exact hk.1.2 | (simp_all; done) | grind) (.int .i64 t273)) (fun _ hk => by first | exact hk.1.2 | (simp_all; done) | grind) (.int .i64 t274)) (fun _ hk => by first | exact hk.1.2 | (simp_all; done) | grind) (.slice Ao11 t275.length co11)) (fun _ hk => by first | exact hk.2 | (simp_all; done) | grind) (.slice Ao12 t278.length co12)) (fun _ h_ => h_.1)) (fun _ h_ => h_.1)))); (case side2 => exact (Kd.qbd HO277.out).2.1); (case side3 => refine (Kd.qbd (e := 3) (base := w.heap.size) (ok := fun k_ => some k_ ≠ (.slice Ao11 t275.length co11 : Value).ownBlock) (n := t278.length) (c := co12) ?_).2.2; exact (by (with_reducible repeat (first | apply Kd.qau | apply Kd.qat | apply Kd.qax)); exact (Kd.qbl (Kd.qbl (Kd.R_far (p := ⟨gb282, 0, none⟩) (Kd.R_far (p := ⟨gb281, 2, none⟩) (Kd.R_far (p := ⟨gb281, 1, none⟩) (Kd.R_far (p := ⟨gb281, 0, none⟩) (Kd.qbk (Kd.qbk HO280.out BK281.out (by decide)) BK282.out (by decide)) (fun _ hk => by first | exact hk.1.2 | (simp_all; done) | grind) (.int .i64 t273)) (fun _ hk => by first | exact hk.1.2 | (simp_all; done) | grind) (.int .i64 t274)) (fun _ hk => by first | exact hk.1.2 | (simp_all; done) | grind) (.slice Ao11 t275.length co11)) (fun _ hk => by first | exact hk.2 | (simp_all; done) | grind) (.slice Ao12 t278.length co12)) (fun _ h_ => h_.1)) (fun _ h_ => h_.1)))); (case side4 => exact (Kd.qbd HO280.out).2.1); rintro e w14 ⟨v284, rfl, ho0, hb⟩; refine ⟨_, rfl, ?_⟩; have n0_ := qad.mk (Kd.qbe (by (with_reducible repeat (first | apply Kd.qau | apply Kd.qat | apply Kd.qax)); exact (Kd.qbl (Kd.qbl (Kd.R_far (p := ⟨gb282, 0, none⟩) (Kd.R_far (p := ⟨gb281, 2, none⟩) (Kd.R_far (p := ⟨gb281, 1, none⟩) (Kd.R_far (p := ⟨gb281, 0, none⟩) (Kd.qbk (Kd.qbk HO277.out BK281.out (by decide)) BK282.out (by decide)) (fun _ hk => by first | exact hk.1.2 | (simp_all; done) | grind) (.int .i64 t273)) (fun _ hk => by first | exact hk.1.2 | (simp_all; done) | grind) (.int .i64 t274)) (fun _ hk => by first | exact hk.1.2 | (simp_all; done) | grind) (.slice Ao11 t275.length co11)) (fun _ hk => by first | exact hk.2 | (simp_all; done) | grind) (.slice Ao12 t278.length co12)) (fun _ h_ => h_.1)) (fun _ h_ => h_.1))) hb); have n1_ := qad.mk (Kd.qbe (by (with_reducible repeat (first | apply Kd.qau | apply Kd.qat | apply Kd.qax)); exact (Kd.qbl (Kd.qbl (Kd.R_far (p := ⟨gb282, 0, none⟩) (Kd.R_far (p := ⟨gb281, 2, none⟩) (Kd.R_far (p := ⟨gb281, 1, none⟩) (Kd.R_far (p := ⟨gb281, 0, none⟩) (Kd.qbk (Kd.qbk HO280.out BK281.out (by decide)) BK282.out (by decide)) (fun _ hk => by first | exact hk.1.2 | (simp_all; done) | grind) (.int .i64 t273)) (fun _ hk => by first | exact hk.1.2 | (simp_all; done) | grind) (.int .i64 t274)) (fun _ hk => by first | exact hk.1.2 | (simp_all; done) | grind) (.slice Ao11 t275.length co11)) (fun _ hk => by first | exact hk.2 | (simp_all; done) | grind) (.slice Ao12 t278.length co12)) (fun _ h_ => h_.1)) (fun _ h_ => h_.1))) hb); have n2_ := qad.mk (Kd.qbv ho0 (qal (by repeat (first | (with_reducible first | exact HB.out | apply qac | apply qaa | apply qab | refine qaf ?_ GE281.out | refine qaf ?_ GE282.out) | exact HB.out)))); have n3_ := qad.mk (qam (g := gb281) (o := .cells #[.int .i64 t273, .int .i64 t274, .slice Ao11 t275.length co11] 34 (0, 0)) (by (with_reducible repeat (first | refine qai ?_ _ | refine qaj ?_ | refine qah ?_ _)); refine qbj ?_ NB281_282.out _; (with_reducible repeat (first | refine qai ?_ _ | refine qaj ?_ | refine qah ?_ _)); refine qbc (cs := #[.int .i64 t273, .int .i64 t274, .slice none 0 0]) ?_ 2 _ rfl; (with_reducible repeat (first | refine qai ?_ _ | refine qaj ?_ | refine qah ?_ _)); refine qbc (cs := #[.int .i64 t273, .int .i64 0, .slice none 0 0]) ?_ 1 _ rfl; (with_reducible repeat (first | refine qai ?_ _ | refine qaj ?_ | refine qah ?_ _)); refine qbc (cs := #[.int .i64 0, .int .i64 0, .slice none 0 0]) ?_ 0 _ rfl; (with_reducible repeat (first | refine qai ?_ _ | refine qaj ?_ | refine qah ?_ _)); exact BK281.out) hb); have n4_ := qad.mk (qam (g := gb282) (o := .cells #[.slice Ao12 t278.length co12] 36 (0, 0)) (by (with_reducible repeat (first | refine qai ?_ _ | refine qaj ?_ | refine qah ?_ _)); refine qbc (cs := #[.slice none 0 0]) ?_ 0 _ rfl; (with_reducible repeat (first | refine qai ?_ _ | refine qaj ?_ | refine qah ?_ _)); refine qbj ?_ NB282_281.out _; (with_reducible repeat (first | refine qai ?_ _ | refine qaj ?_ | refine qah ?_ _)); refine qbj ?_ NB282_281.out _; (with_reducible repeat (first | refine qai ?_ _ | refine qaj ?_ | refine qah ?_ _)); refine qbj ?_ NB282_281.out _; (with_reducible repeat (first | refine qai ?_ _ | refine qaj ?_ | refine qah ?_ _)); exact BK282.out) hb); have n5_ := qad.mk (qak (by repeat (first | (with_reducible first | exact HB.out | apply qac | apply qaa | apply qab | refine qaf ?_ GE281.out | refine qaf ?_ GE282.out) | exact HB.out)) hb); clear HO277; clear HO280; clear BK281; clear BK282; clear HB; have HO277 := n0_; have HO280 := n1_; have HO285 := n2_; have BK281 := n3_; have BK282 := n4_; have HB := n5_; clear n0_ n1_ n2_ n3_ n4_ n5_; (try clear hb); (try clear hb2); (try clear hk); (try clear hi); (try clear ho0)))
  go_loopg [6] k (fun kq v6 w' => ∃ (x6_1 : Int), v6 = .int .i64 x6_1 ∧ qad (laws_FnDepends.l0 kq t283 x6_1 t273 t274 t275 = some r) ∧ qad (kq ≤ k) ∧ qad (Kd.R k83 83 w' w.heap.size (fun _ => True) v284 t283) ∧ qad (Kd.R (Kd.int .i64) 3 w' w.heap.size (fun k_ => some k_ ≠ ((.slice Ao12 t278.length co12) : Value).ownBlock) (.slice Ao11 t275.length co11) t275) ∧ qad (Kd.R (Kd.int .i64) 3 w' w.heap.size (fun k_ => some k_ ≠ ((.slice Ao11 t275.length co11) : Value).ownBlock) (.slice Ao12 t278.length co12) t278) ∧ qad (w'.heap[gb281]? = some (.cells #[.int .i64 t273, .int .i64 t274, (.slice Ao11 t275.length co11)] 34 (0, 0))) ∧ qad (w'.heap[gb282]? = some (.cells #[(.slice Ao12 t278.length co12)] 36 (0, 0))) ∧ qad (Below w.heap.size w w'))
  case atStart => exact ⟨(0), (by first | rfl | (simp; done) | (simp [*]; done)), H', ⟨Nat.le_refl _⟩, ⟨by (with_reducible repeat (first | apply Kd.qau | apply Kd.qat | apply Kd.qax)); exact HO285.out⟩, ⟨by (with_reducible repeat (first | apply Kd.qau | apply Kd.qat | apply Kd.qax)); exact HO277.out⟩, ⟨by (with_reducible repeat (first | apply Kd.qau | apply Kd.qat | apply Kd.qax)); exact HO280.out⟩, ⟨by (with_reducible repeat (first | refine qai ?_ _ | refine qaj ?_ | refine qah ?_ _)); exact BK281.out⟩, ⟨by (with_reducible repeat (first | refine qai ?_ _ | refine qaj ?_ | refine qah ?_ _)); exact BK282.out⟩, ⟨by repeat (first | (with_reducible first | exact HB.out | apply qac | apply qaa | apply qab | refine qaf ?_ GE281.out | refine qaf ?_ GE282.out) | exact HB.out)⟩⟩
  case round =>
   clear H'
   try clear c1
   try clear p2
   try clear c3
   try clear c4
   try clear c5
   try clear c9
   try clear c12
   try clear hcz10_0
   try clear hcz10_1
   try clear hcz10_2
   try clear hcz13_0
   try clear hfz10_0
   try clear hfz10_1
   try clear hfz10_2
   try clear hfz13_0
   obtain ⟨x6_1, rfl, HA, HK1, HO_5, HO_282002, HO_283000, BK281, BK282, HB⟩ := hrel
   cases gk with
   | zero => exact absurd HA.out (by simp [laws_FnDepends.l0])
   | succ k1 =>
    have H := HA.out
    clear HA
    simp only [laws_FnDepends.l0] at H
    by_cases c15 : x6_1 < (t283.length : Int)
    ·rw [if_pos c15] at H
     have c15b0 : decide (x6_1 < (t283.length : Int)) = true := decide_eq_true c15
     clear c15
     by_cases c16 : 0 ≤ x6_1
     ·rw [if_pos c16] at H
      have c16b0 : decide (0 ≤ x6_1) = true := decide_eq_true c16
      clear c16
      replace H := Option.bind_eq_some_iff.mp H
      obtain ⟨t290, A170, H⟩ := H
      try dsimp only at H
      have A17 := qad.mk A170
      clear A170
      by_cases c18 : (wrap64 (Int.tdiv ((rd_T83 t283 x6_1).f1) 4)) = t290
      ·rw [if_pos c18] at H
       have c18b0 : ((wrap64 (Int.tdiv ((rd_T83 t283 x6_1).f1) 4)) == t290) = true := beq_iff_eq.mpr c18
       have c18b1 : ((wrap64 (Int.tdiv ((rd_T83 t283 x6_1).f1) 4)) != t290) = false := bne_eq_false_iff_eq.mpr c18
       clear c18
       replace H := Option.bind_eq_some_iff.mp H
       obtain ⟨t292, A190, H⟩ := H
       try dsimp only at H
       have A19 := qad.mk A190
       clear A190
       replace H := Option.bind_eq_some_iff.mp H
       obtain ⟨t296, A200, H⟩ := H
       try dsimp only at H
       have A20 := qad.mk A200
       clear A200
       by_cases c21 : t296 = true
       ·subst c21
        have H1 := H
        rw [if_pos rfl] at H1
        clear H
        have H := H1
        clear H1
        have H' := qad.mk H
        clear H
        obtain ⟨Ao22, co22, eo22⟩ := Kd.qbq HO_5.out
        subst eo22
        try go_wp2
        have n0_ := qad.mk (Kd.qax HO_5.out)
        have n1_ := qad.mk (Kd.qax HO_282002.out)
        have n2_ := qad.mk (Kd.qax HO_283000.out)
        have n3_ := qad.mk (qaj BK281.out)
        have n4_ := qad.mk (qaj BK282.out)
        have n5_ := qad.mk (qab HB.out)
        clear HO_5
        clear HO_282002
        clear HO_283000
        clear BK281
        clear BK282
        clear HB
        have HO_5 := n0_
        have HO_282002 := n1_
        have HO_283000 := n2_
        have BK281 := n3_
        have BK282 := n4_
        have HB := n5_
        clear n0_ n1_ n2_ n3_ n4_ n5_
        have p287 : 0 ≤ (x6_1 : Int) := of_decide_eq_true (by first | (with_reducible assumption) | assumption)
        have q287 : x6_1 < (t283.length : Int) := of_decide_eq_true (by first | (with_reducible assumption) | assumption)
        obtain ⟨ad287, e287, hx287_0, hx287_1⟩ := at_T83 (Kd.qbd HO_5.out).2.2 x6_1 p287 q287
        cases e287
        replace p287 := eq_true p287
        replace q287 := eq_true q287
        have p288 : 0 ≤ (x6_1 : Int) := of_decide_eq_true (by first | (with_reducible assumption) | assumption)
        have q288 : x6_1 < (t283.length : Int) := of_decide_eq_true (by first | (with_reducible assumption) | assumption)
        obtain ⟨ad288, e288, hx288_0, hx288_1⟩ := at_T83 (Kd.qbd HO_5.out).2.2 x6_1 p288 q288
        obtain rfl : ad287 = ad288 := (by injection e288)
        replace p288 := eq_true p288
        replace q288 := eq_true q288
        have p289 : 0 ≤ (x6_1 : Int) := of_decide_eq_true (by first | (with_reducible assumption) | assumption)
        have q289 : x6_1 < (t283.length : Int) := of_decide_eq_true (by first | (with_reducible assumption) | assumption)
        obtain ⟨ad289, e289, hx289_0, hx289_1⟩ := at_T83 (Kd.qbd HO_5.out).2.2 x6_1 p289 q289
        obtain rfl : ad287 = ad289 := (by injection e289)
        replace p289 := eq_true p289
        replace q289 := eq_true q289
        have p291 : 0 ≤ (x6_1 : Int) := of_decide_eq_true (by first | (with_reducible assumption) | assumption)
        have q291 : x6_1 < (t283.length : Int) := of_decide_eq_true (by first | (with_reducible assumption) | assumption)
        obtain ⟨ad291, e291, hx291_0, hx291_1⟩ := at_T83 (Kd.qbd HO_5.out).2.2 x6_1 p291 q291
        obtain rfl : ad287 = ad291 := (by injection e291)
        replace p291 := eq_true p291
        replace q291 := eq_true q291
        have p295 : 0 ≤ (x6_1 : Int) := of_decide_eq_true (by first | (with_reducible assumption) | assumption)
        have q295 : x6_1 < (t283.length : Int) := of_decide_eq_true (by first | (with_reducible assumption) | assumption)
        obtain ⟨ad295, e295, hx295_0, hx295_1⟩ := at_T83 (Kd.qbd HO_5.out).2.2 x6_1 p295 q295
        obtain rfl : ad287 = ad295 := (by injection e295)
        replace p295 := eq_true p295
        replace q295 := eq_true q295
        refine qcg (n := 38) (S := fun w' => w'.cell? ⟨gb281, 0, none⟩ = some (.int .i64 t273) ∧ w'.cell? ⟨gb281, 1, none⟩ = some (.int .i64 t274) ∧ w'.cell? ⟨gb281, 2, none⟩ = some (.slice Ao11 t275.length co11) ∧ w'.cell? (ad287.add ((x6_1).toNat * 2)) = some (.int .i64 ((rd_T83 t283 x6_1).f0)) ∧ w'.cell? ⟨(ad287.add ((x6_1).toNat * 2)).block, (ad287.add ((x6_1).toNat * 2)).off + 1, none⟩ = some (.int .i64 ((rd_T83 t283 x6_1).f1)) ∧ w'.cell? (ad287.add ((x6_1).toNat * 2)) = some (.int .i64 ((rd_T83 t283 x6_1).f0)) ∧ w'.cell? ⟨(ad287.add ((x6_1).toNat * 2)).block, (ad287.add ((x6_1).toNat * 2)).off + 1, none⟩ = some (.int .i64 ((rd_T83 t283 x6_1).f1)) ∧ w'.cell? (ad287.add ((x6_1).toNat * 2)) = some (.int .i64 ((rd_T83 t283 x6_1).f0)) ∧ w'.cell? ⟨(ad287.add ((x6_1).toNat * 2)).block, (ad287.add ((x6_1).toNat * 2)).off + 1, none⟩ = some (.int .i64 ((rd_T83 t283 x6_1).f1)) ∧ w'.cell? (ad287.add ((x6_1).toNat * 2)) = some (.int .i64 ((rd_T83 t283 x6_1).f0)) ∧ w'.cell? ⟨(ad287.add ((x6_1).toNat * 2)).block, (ad287.add ((x6_1).toNat * 2)).off + 1, none⟩ = some (.int .i64 ((rd_T83 t283 x6_1).f1)) ∧ w'.cell? (ad287.add ((x6_1).toNat * 2)) = some (.int .i64 ((rd_T83 t283 x6_1).f0)) ∧ w'.cell? ⟨(ad287.add ((x6_1).toNat * 2)).block, (ad287.add ((x6_1).toNat * 2)).off + 1, none⟩ = some (.int .i64 ((rd_T83 t283 x6_1).f1))) (ds := []) #[false, false, false, false, false, false, false, false, false, false, false, false, false, false, false, false, false, false, false, false, false, false, false, false, false, false, false, false, false, false, false, false, false, false, false, false, false, false] (by kernel_rfl) rfl rfl ⟨(qag BK281.out 0).trans rfl, (qag BK281.out 1).trans rfl, (qag BK281.out 2).trans rfl, hx287_0, hx287_1, hx288_0, hx288_1, hx289_0, hx289_1, hx291_0, hx291_1, hx295_0, hx295_1⟩ (fun hHeld => ?_); refine qbs laws_FnDepends.tab8 laws_FnDepends.bits8 (fun HT_ HW_ => ?_)
        generalize wr.drew = w23 at HO_5 HO_282002 HO_283000 BK281 BK282 HB hx287_0 hx287_1 hx288_0 hx288_1 hx289_0 hx289_1 hx291_0 hx291_1 hx295_0 hx295_1 hHeld ⊢
        refine pure_ (i := 0) (N := some 23) (v := ?_) (a' := ?_) #[true, false, false, false, false, false, false, false, false, false, false, false, false, false, false, false, false, false, false, false, false, false, false, false, false, false, false, false, false, false, false, false, false, false, false, false, false, false] rfl rfl (qaq HT_.out (by kernel_rfl)) (fun _ _ _ h => h) (Or.inl ⟨by rfl, ?_⟩) ?_ ?_
        rotate_left
        ·intro w'
         go_simp
         with_reducible rfl
        rotate_left
        ·simp only [Act.put, List.setIfInBounds_toArray, List.set_cons_zero, List.set_cons_succ, i64_w, i32_w]
         rfl
        refine pure_ (i := 1) (N := some 24) (v := ?_) (a' := ?_) #[true, true, false, false, false, false, false, false, false, false, false, false, false, false, false, false, false, false, false, false, false, false, false, false, false, false, false, false, false, false, false, false, false, false, false, false, false, false] rfl rfl (qaq HT_.out (by kernel_rfl)) (fun _ _ _ h => h) (Or.inl ⟨by rfl, ?_⟩) ?_ ?_
        rotate_left
        ·intro w'
         go_simp
         with_reducible rfl
        rotate_left
        ·simp only [Act.put, List.setIfInBounds_toArray, List.set_cons_zero, List.set_cons_succ, i64_w, i32_w]
         rfl
        refine pure_ (i := 2) (N := some 25) (v := ?_) (a' := ?_) #[true, true, true, false, false, false, false, false, false, false, false, false, false, false, false, false, false, false, false, false, false, false, false, false, false, false, false, false, false, false, false, false, false, false, false, false, false, false] rfl rfl (qaq HT_.out (by kernel_rfl)) (fun _ _ _ h => h) (Or.inl ⟨by rfl, ?_⟩) ?_ ?_
        rotate_left
        ·intro w'
         go_simp
         with_reducible rfl
        rotate_left
        ·simp only [Act.put, List.setIfInBounds_toArray, List.set_cons_zero, List.set_cons_succ, i64_w, i32_w]
         rfl
        refine pure_ (i := 3) (N := some 26) (v := ?_) (a' := ?_) #[true, true, true, true, false, false, false, false, false, false, false, false, false, false, false, false, false, false, false, false, false, false, false, false, false, false, false, false, false, false, false, false, false, false, false, false, false, false] rfl rfl (qaq HT_.out (by kernel_rfl)) (fun _ _ _ h => h) (Or.inl ⟨by rfl, ?_⟩) ?_ ?_
        rotate_left
        ·intro w'
         go_simp
         with_reducible rfl
        rotate_left
        ·simp only [Act.put, List.setIfInBounds_toArray, List.set_cons_zero, List.set_cons_succ, i64_w, i32_w]
         rfl
        refine pure_ (i := 6) (N := some 29) (v := ?_) (a' := ?_) #[true, true, true, true, false, false, true, false, false, false, false, false, false, false, false, false, false, false, false, false, false, false, false, false, false, false, false, false, false, false, false, false, false, false, false, false, false, false] rfl rfl (qaq HT_.out (by kernel_rfl)) (fun _ _ _ h => h) (Or.inl ⟨by rfl, ?_⟩) ?_ ?_
        rotate_left
        ·intro w'
         go_simp
         with_reducible rfl
        rotate_left
        ·simp only [Act.put, List.setIfInBounds_toArray, List.set_cons_zero, List.set_cons_succ, i64_w, i32_w]
         rfl
        refine pure_ (i := 8) (N := some 31) (v := ?_) (a' := ?_) #[true, true, true, true, false, false, true, false, true, false, false, false, false, false, false, false, false, false, false, false, false, false, false, false, false, false, false, false, false, false, false, false, false, false, false, false, false, false] rfl rfl (qaq HT_.out (by kernel_rfl)) (fun _ _ _ h => h) (Or.inl ⟨by rfl, ?_⟩) ?_ ?_
        rotate_left
        ·intro w'
         go_simp
         with_reducible rfl
        rotate_left
        ·simp only [Act.put, List.setIfInBounds_toArray, List.set_cons_zero, List.set_cons_succ, i64_w, i32_w]
         rfl
        refine pure_ (i := 9) (N := some 32) (v := ?_) (a' := ?_) #[true, true, true, true, false, false, true, false, true, true, false, false, false, false, false, false, false, false, false, false, false, false, false, false, false, false, false, false, false, false, false, false, false, false, false, false, false, false] rfl rfl (qaq HT_.out (by kernel_rfl)) (fun _ _ _ h => h) (Or.inl ⟨by rfl, ?_⟩) ?_ ?_
        rotate_left
        ·intro w'
         go_simp
         with_reducible rfl
        rotate_left
        ·simp only [Act.put, List.setIfInBounds_toArray, List.set_cons_zero, List.set_cons_succ, i64_w, i32_w]
         rfl
        refine pure_ (i := 10) (N := some 33) (v := ?_) (a' := ?_) #[true, true, true, true, false, false, true, false, true, true, true, false, false, false, false, false, false, false, false, false, false, false, false, false, false, false, false, false, false, false, false, false, false, false, false, false, false, false] rfl rfl (qaq HT_.out (by kernel_rfl)) (fun _ _ _ h => h) (Or.inl ⟨by rfl, ?_⟩) ?_ ?_
        rotate_left
        ·intro w'
         go_simp
         with_reducible rfl
        rotate_left
        ·simp only [Act.put, List.setIfInBounds_toArray, List.set_cons_zero, List.set_cons_succ, i64_w, i32_w]
         rfl
        refine pure_ (i := 11) (N := some 34) (v := ?_) (a' := ?_) #[true, true, true, true, false, false, true, false, true, true, true, true, false, false, false, false, false, false, false, false, false, false, false, false, false, false, false, false, false, false, false, false, false, false, false, false, false, false] rfl rfl (qaq HT_.out (by kernel_rfl)) (fun _ _ _ h => h) (Or.inl ⟨by rfl, ?_⟩) ?_ ?_
        rotate_left
        ·intro w'
         go_simp
         with_reducible rfl
        rotate_left
        ·simp only [Act.put, List.setIfInBounds_toArray, List.set_cons_zero, List.set_cons_succ, i64_w, i32_w]
         rfl
        refine pure_ (i := 14) (N := some 37) (v := ?_) (a' := ?_) #[true, true, true, true, false, false, true, false, true, true, true, true, false, false, true, false, false, false, false, false, false, false, false, false, false, false, false, false, false, false, false, false, false, false, false, false, false, false] rfl rfl (qaq HT_.out (by kernel_rfl)) (fun _ _ _ h => h) (Or.inl ⟨by rfl, ?_⟩) ?_ ?_
        rotate_left
        ·intro w'
         go_simp
         with_reducible rfl
        rotate_left
        ·simp only [Act.put, List.setIfInBounds_toArray, List.set_cons_zero, List.set_cons_succ, i64_w, i32_w]
         rfl
        refine pure_ (i := 15) (N := some 38) (v := ?_) (a' := ?_) #[true, true, true, true, false, false, true, false, true, true, true, true, false, false, true, true, false, false, false, false, false, false, false, false, false, false, false, false, false, false, false, false, false, false, false, false, false, false] rfl rfl (qaq HT_.out (by kernel_rfl)) (fun _ _ _ h => h) (Or.inl ⟨by rfl, ?_⟩) ?_ ?_
        rotate_left
        ·intro w'
         go_simp
         with_reducible rfl
        rotate_left
        ·simp only [Act.put, List.setIfInBounds_toArray, List.set_cons_zero, List.set_cons_succ, i64_w, i32_w]
         rfl
        refine pure_ (i := 16) (N := some 39) (v := ?_) (a' := ?_) #[true, true, true, true, false, false, true, false, true, true, true, true, false, false, true, true, true, false, false, false, false, false, false, false, false, false, false, false, false, false, false, false, false, false, false, false, false, false] rfl rfl (qaq HT_.out (by kernel_rfl)) (fun _ _ _ h => h) (Or.inl ⟨by rfl, ?_⟩) ?_ ?_
        rotate_left
        ·intro w'
         go_simp
         with_reducible rfl
        rotate_left
        ·simp only [Act.put, List.setIfInBounds_toArray, List.set_cons_zero, List.set_cons_succ, i64_w, i32_w]
         rfl
        refine pure_ (i := 17) (N := some 40) (v := ?_) (a' := ?_) #[true, true, true, true, false, false, true, false, true, true, true, true, false, false, true, true, true, true, false, false, false, false, false, false, false, false, false, false, false, false, false, false, false, false, false, false, false, false] rfl rfl (qaq HT_.out (by kernel_rfl)) (fun _ _ _ h => h) (Or.inl ⟨by rfl, ?_⟩) ?_ ?_
        rotate_left
        ·intro w'
         go_simp
         with_reducible rfl
        rotate_left
        ·simp only [Act.put, List.setIfInBounds_toArray, List.set_cons_zero, List.set_cons_succ, i64_w, i32_w]
         rfl
        refine take_ (i := 4) (N := some 27) (v := ?_) (a' := ?_) #[true, true, true, true, true, false, true, false, true, true, true, true, false, false, true, true, true, true, false, false, false, false, false, false, false, false, false, false, false, false, false, false, false, false, false, false, false, false] rfl rfl (qbg HT_.out HW_.out (by kernel_rfl)) (fun _ _ _ h => h) (Or.inl ⟨by rfl, ?_⟩) hHeld ?_ ?_
        rotate_left
        ·rintro w' ⟨s0, s1, s2, s3, s4, s5, s6, s7, s8, s9, s10, s11, s12⟩
         go_simp
         with_reducible rfl
        rotate_left
        ·simp only [Act.put, List.setIfInBounds_toArray, List.set_cons_zero, List.set_cons_succ, i64_w, i32_w]
         rfl
        refine pure_ (i := 5) (N := some 28) (v := ?_) (a' := ?_) #[true, true, true, true, true, true, true, false, true, true, true, true, false, false, true, true, true, true, false, false, false, false, false, false, false, false, false, false, false, false, false, false, false, false, false, false, false, false] rfl rfl (qaq HT_.out (by kernel_rfl)) (fun _ _ _ h => h) (Or.inl ⟨by rfl, ?_⟩) ?_ ?_
        rotate_left
        ·intro w'
         go_simp
         with_reducible rfl
        rotate_left
        ·simp only [Act.put, List.setIfInBounds_toArray, List.set_cons_zero, List.set_cons_succ, i64_w, i32_w]
         rfl
        refine take_ (i := 7) (N := some 30) (v := ?_) (a' := ?_) #[true, true, true, true, true, true, true, true, true, true, true, true, false, false, true, true, true, true, false, false, false, false, false, false, false, false, false, false, false, false, false, false, false, false, false, false, false, false] rfl rfl (qbg HT_.out HW_.out (by kernel_rfl)) (fun _ _ _ h => h) (Or.inl ⟨by rfl, ?_⟩) hHeld ?_ ?_
        rotate_left
        ·rintro w' ⟨s0, s1, s2, s3, s4, s5, s6, s7, s8, s9, s10, s11, s12⟩
         go_simp
         with_reducible rfl
        rotate_left
        ·simp only [Act.put, List.setIfInBounds_toArray, List.set_cons_zero, List.set_cons_succ, i64_w, i32_w]
         rfl
        refine take_ (i := 12) (N := some 35) (v := ?_) (a' := ?_) #[true, true, true, true, true, true, true, true, true, true, true, true, true, false, true, true, true, true, false, false, false, false, false, false, false, false, false, false, false, false, false, false, false, false, false, false, false, false] rfl rfl (qbg HT_.out HW_.out (by kernel_rfl)) (fun _ _ _ h => h) (Or.inl ⟨by rfl, ?_⟩) hHeld ?_ ?_
        rotate_left
        ·rintro w' ⟨s0, s1, s2, s3, s4, s5, s6, s7, s8, s9, s10, s11, s12⟩
         go_simp
         with_reducible rfl
        rotate_left
        ·simp only [Act.put, List.setIfInBounds_toArray, List.set_cons_zero, List.set_cons_succ, i64_w, i32_w]
         rfl
        refine pure_ (i := 13) (N := some 36) (v := ?_) (a' := ?_) #[true, true, true, true, true, true, true, true, true, true, true, true, true, true, true, true, true, true, false, false, false, false, false, false, false, false, false, false, false, false, false, false, false, false, false, false, false, false] rfl rfl (qaq HT_.out (by kernel_rfl)) (fun _ _ _ h => h) (Or.inl ⟨by rfl, ?_⟩) ?_ ?_
        rotate_left
        ·intro w'
         go_simp
         with_reducible rfl
        rotate_left
        ·simp only [Act.put, List.setIfInBounds_toArray, List.set_cons_zero, List.set_cons_succ, i64_w, i32_w]
         rfl
        refine take_ (i := 18) (N := some 41) (v := ?_) (a' := ?_) #[true, true, true, true, true, true, true, true, true, true, true, true, true, true, true, true, true, true, true, false, false, false, false, false, false, false, false, false, false, false, false, false, false, false, false, false, false, false] rfl rfl (qbg HT_.out HW_.out (by kernel_rfl)) (fun _ _ _ h => h) (Or.inl ⟨by rfl, ?_⟩) hHeld ?_ ?_
        rotate_left
        ·rintro w' ⟨s0, s1, s2, s3, s4, s5, s6, s7, s8, s9, s10, s11, s12⟩
         go_simp
         with_reducible rfl
        rotate_left
        ·simp only [Act.put, List.setIfInBounds_toArray, List.set_cons_zero, List.set_cons_succ, i64_w, i32_w]
         rfl
        refine pure_ (i := 19) (N := some 42) (v := ?_) (a' := ?_) #[true, true, true, true, true, true, true, true, true, true, true, true, true, true, true, true, true, true, true, true, false, false, false, false, false, false, false, false, false, false, false, false, false, false, false, false, false, false] rfl rfl (qaq HT_.out (by kernel_rfl)) (fun _ _ _ h => h) (Or.inl ⟨by rfl, ?_⟩) ?_ ?_
        rotate_left
        ·intro w'
         go_simp
         with_reducible rfl
        rotate_left
        ·simp only [Act.put, List.setIfInBounds_toArray, List.set_cons_zero, List.set_cons_succ, i64_w, i32_w]
         rfl
        refine one_ (i := 20) (N := some 43) #[true, true, true, true, true, true, true, true, true, true, true, true, true, true, true, true, true, true, true, true, true, false, false, false, false, false, false, false, false, false, false, false, false, false, false, false, false, false] rfl rfl (qbm HT_.out (by kernel_rfl)) (by decide) (fun K hK => ?_)
        refine goes_ Try.func62 (by kernel_rfl) rfl #[.agg #[.int .i64 t273, .int .i64 t274], .int .i64 (wrap64 (Int.tdiv ((rd_T83 t283 x6_1).f0) 4)), .int .i64 (Int.tmod ((rd_T83 t283 x6_1).f0) 4)] (by rfl) rfl rfl (by (try simp only [List.map_toArray, List.map_cons, List.map_nil]); first | done | rfl | (simp only [List.length_drop, List.length_take]; rfl)) ?_
        with_reducible refine (impl_NextNode.calls t273 t274 (wrap64 (Int.tdiv ((rd_T83 t283 x6_1).f0) 4)) (Int.tmod ((rd_T83 t283 x6_1).f0) 4) t290 _ A17.out).mono ?_
        rintro e w24 ⟨rfl, hb⟩
        have HS3_ := (hb.cell (World.block_lt_of_cell? _ _ (hHeld.2.2.2.1))).trans (hHeld.2.2.2.1)
        have HS4_ := (hb.cell (World.block_lt_of_cell? _ _ (hHeld.2.2.2.2.1))).trans (hHeld.2.2.2.2.1)
        have HS5_ := (hb.cell (World.block_lt_of_cell? _ _ (hHeld.2.2.2.2.2.1))).trans (hHeld.2.2.2.2.2.1)
        have HS6_ := (hb.cell (World.block_lt_of_cell? _ _ (hHeld.2.2.2.2.2.2.1))).trans (hHeld.2.2.2.2.2.2.1)
        have HS7_ := (hb.cell (World.block_lt_of_cell? _ _ (hHeld.2.2.2.2.2.2.2.1))).trans (hHeld.2.2.2.2.2.2.2.1)
        have HS8_ := (hb.cell (World.block_lt_of_cell? _ _ (hHeld.2.2.2.2.2.2.2.2.1))).trans (hHeld.2.2.2.2.2.2.2.2.1)
        have HS9_ := (hb.cell (World.block_lt_of_cell? _ _ (hHeld.2.2.2.2.2.2.2.2.2.1))).trans (hHeld.2.2.2.2.2.2.2.2.2.1)
        have HS10_ := (hb.cell (World.block_lt_of_cell? _ _ (hHeld.2.2.2.2.2.2.2.2.2.2.1))).trans (hHeld.2.2.2.2.2.2.2.2.2.2.1)
        have HS11_ := (hb.cell (World.block_lt_of_cell? _ _ (hHeld.2.2.2.2.2.2.2.2.2.2.2.1))).trans (hHeld.2.2.2.2.2.2.2.2.2.2.2.1)
        have HS12_ := (hb.cell (World.block_lt_of_cell? _ _ (hHeld.2.2.2.2.2.2.2.2.2.2.2.2))).trans (hHeld.2.2.2.2.2.2.2.2.2.2.2.2)
        refine ⟨_, rfl, ?_⟩
        have n0_ := qad.mk (Kd.qbe (by (with_reducible repeat (first | apply Kd.qau | apply Kd.qat | apply Kd.qax)); exact HO_5.out) hb)
        have n1_ := qad.mk (Kd.qbe (by (with_reducible repeat (first | apply Kd.qau | apply Kd.qat | apply Kd.qax)); exact HO_282002.out) hb)
        have n2_ := qad.mk (Kd.qbe (by (with_reducible repeat (first | apply Kd.qau | apply Kd.qat | apply Kd.qax)); exact HO_283000.out) hb)
        have n3_ := qad.mk (qam (g := gb281) (o := .cells #[.int .i64 t273, .int .i64 t274, .slice Ao11 t275.length co11] 34 (0, 0)) (by (with_reducible repeat (first | refine qai ?_ _ | refine qaj ?_ | refine qah ?_ _)); exact BK281.out) hb)
        have n4_ := qad.mk (qam (g := gb282) (o := .cells #[.slice Ao12 t278.length co12] 36 (0, 0)) (by (with_reducible repeat (first | refine qai ?_ _ | refine qaj ?_ | refine qah ?_ _)); exact BK282.out) hb)
        have n5_ := qad.mk (qak (by repeat (first | (with_reducible first | exact HB.out | apply qac | apply qaa | apply qab | refine qaf ?_ GE281.out | refine qaf ?_ GE282.out) | exact HB.out)) hb)
        clear HO_5
        clear HO_282002
        clear HO_283000
        clear BK281
        clear BK282
        clear HB
        have HO_5 := n0_
        have HO_282002 := n1_
        have HO_283000 := n2_
        have BK281 := n3_
        have BK282 := n4_
        have HB := n5_
        clear n0_ n1_ n2_ n3_ n4_ n5_
        (try clear hb)
        (try clear hb2)
        (try clear hk)
        (try clear hi)
        refine hK.out _ _ ⟨(qag BK281.out 0).trans rfl, (qag BK281.out 1).trans rfl, (qag BK281.out 2).trans rfl, HS3_, HS4_, HS5_, HS6_, HS7_, HS8_, HS9_, HS10_, HS11_, HS12_⟩ (fun hHeld => ?_)
        clear hK K
        refine norm_ (a' := ?_) ?_ ?_
        rotate_left
        ·show Act.put _ (some 43) _ = _
         simp only [Act.put, List.setIfInBounds_toArray, List.set_cons_zero, List.set_cons_succ, i64_w, i32_w]
         rfl
        refine pure_ (i := 21) (N := some 44) (v := ?_) (a' := ?_) #[true, true, true, true, true, true, true, true, true, true, true, true, true, true, true, true, true, true, true, true, true, true, false, false, false, false, false, false, false, false, false, false, false, false, false, false, false, false] rfl rfl (qaq HT_.out (by kernel_rfl)) (fun _ _ _ h => h) (Or.inl ⟨by rfl, ?_⟩) ?_ ?_
        rotate_left
        ·intro w'
         go_simp
         with_reducible rfl
        rotate_left
        ·simp only [Act.put, List.setIfInBounds_toArray, List.set_cons_zero, List.set_cons_succ, i64_w, i32_w]
         rfl
        refine pure_ (i := 22) (N := some 45) (v := ?_) (a' := ?_) #[true, true, true, true, true, true, true, true, true, true, true, true, true, true, true, true, true, true, true, true, true, true, true, false, false, false, false, false, false, false, false, false, false, false, false, false, false, false] rfl rfl (qaq HT_.out (by kernel_rfl)) (fun _ _ _ h => h) (Or.inl ⟨by rfl, ?_⟩) ?_ ?_
        rotate_left
        ·intro w'
         go_simp
         with_reducible rfl
        rotate_left
        ·simp only [Act.put, List.setIfInBounds_toArray, List.set_cons_zero, List.set_cons_succ, i64_w, i32_w]
         rfl
        refine pure_ (i := 23) (N := some 46) (v := ?_) (a' := ?_) #[true, true, true, true, true, true, true, true, true, true, true, true, true, true, true, true, true, true, true, true, true, true, true, true, false, false, false, false, false, false, false, false, false, false, false, false, false, false] rfl rfl (qaq HT_.out (by kernel_rfl)) (fun _ _ _ h => h) (Or.inl ⟨by rfl, ?_⟩) ?_ ?_
        rotate_left
        ·intro w'
         go_simp
         with_reducible rfl
        rotate_left
        ·simp only [Act.put, List.setIfInBounds_toArray, List.set_cons_zero, List.set_cons_succ, i64_w, i32_w]
         rfl
        refine pure_ (i := 24) (N := some 47) (v := ?_) (a' := ?_) #[true, true, true, true, true, true, true, true, true, true, true, true, true, true, true, true, true, true, true, true, true, true, true, true, true, false, false, false, false, false, false, false, false, false, false, false, false, false] rfl rfl (qaq HT_.out (by kernel_rfl)) (fun _ _ _ h => h) (Or.inl ⟨by rfl, ?_⟩) ?_ ?_
        rotate_left
        ·intro w'
         go_simp
         with_reducible rfl
        rotate_left
        ·simp only [Act.put, List.setIfInBounds_toArray, List.set_cons_zero, List.set_cons_succ, i64_w, i32_w]
         rfl
        refine pure_ (i := 25) (N := some 48) (v := ?_) (a' := ?_) #[true, true, true, true, true, true, true, true, true, true, true, true, true, true, true, true, true, true, true, true, true, true, true, true, true, true, false, false, false, false, false, false, false, false, false, false, false, false] rfl rfl (qaq HT_.out (by kernel_rfl)) (fun _ _ _ h => h) (Or.inl ⟨by rfl, ?_⟩) ?_ ?_
        rotate_left
        ·intro w'
         go_simp
         with_reducible rfl
        rotate_left
        ·simp only [Act.put, List.setIfInBounds_toArray, List.set_cons_zero, List.set_cons_succ, i64_w, i32_w]
         rfl
        refine pure_ (i := 26) (N := some 49) (v := ?_) (a' := ?_) #[true, true, true, true, true, true, true, true, true, true, true, true, true, true, true, true, true, true, true, true, true, true, true, true, true, true, true, false, false, false, false, false, false, false, false, false, false, false] rfl rfl (qaq HT_.out (by kernel_rfl)) (fun _ _ _ h => h) (Or.inl ⟨by rfl, ?_⟩) ?_ ?_
        rotate_left
        ·intro w'
         go_simp
         with_reducible rfl
        rotate_left
        ·simp only [Act.put, List.setIfInBounds_toArray, List.set_cons_zero, List.set_cons_succ, i64_w, i32_w]
         rfl
        refine pure_ (i := 27) (N := some 50) (v := ?_) (a' := ?_) #[true, true, true, true, true, true, true, true, true, true, true, true, true, true, true, true, true, true, true, true, true, true, true, true, true, true, true, true, false, false, false, false, false, false, false, false, false, false] rfl rfl (qaq HT_.out (by kernel_rfl)) (fun _ _ _ h => h) (Or.inl ⟨by rfl, ?_⟩) ?_ ?_
        rotate_left
        ·intro w'
         go_simp
         with_reducible rfl
        rotate_left
        ·simp only [Act.put, List.setIfInBounds_toArray, List.set_cons_zero, List.set_cons_succ, i64_w, i32_w]
         rfl
        refine pure_ (i := 30) (N := some 53) (v := ?_) (a' := ?_) #[true, true, true, true, true, true, true, true, true, true, true, true, true, true, true, true, true, true, true, true, true, true, true, true, true, true, true, true, false, false, true, false, false, false, false, false, false, false] rfl rfl (qaq HT_.out (by kernel_rfl)) (fun _ _ _ h => h) (Or.inl ⟨by rfl, ?_⟩) ?_ ?_
        rotate_left
        ·intro w'
         go_simp
         with_reducible rfl
        rotate_left
        ·simp only [Act.put, List.setIfInBounds_toArray, List.set_cons_zero, List.set_cons_succ, i64_w, i32_w]
         rfl
        refine pure_ (i := 31) (N := some 54) (v := ?_) (a' := ?_) #[true, true, true, true, true, true, true, true, true, true, true, true, true, true, true, true, true, true, true, true, true, true, true, true, true, true, true, true, false, false, true, true, false, false, false, false, false, false] rfl rfl (qaq HT_.out (by kernel_rfl)) (fun _ _ _ h => h) (Or.inl ⟨by rfl, ?_⟩) ?_ ?_
        rotate_left
        ·intro w'
         go_simp
         with_reducible rfl
        rotate_left
        ·simp only [Act.put, List.setIfInBounds_toArray, List.set_cons_zero, List.set_cons_succ, i64_w, i32_w]
         rfl
        refine pure_ (i := 32) (N := some 55) (v := ?_) (a' := ?_) #[true, true, true, true, true, true, true, true, true, true, true, true, true, true, true, true, true, true, true, true, true, true, true, true, true, true, true, true, false, false, true, true, true, false, false, false, false, false] rfl rfl (qaq HT_.out (by kernel_rfl)) (fun _ _ _ h => h) (Or.inl ⟨by rfl, ?_⟩) ?_ ?_
        rotate_left
        ·intro w'
         go_simp
         with_reducible rfl
        rotate_left
        ·simp only [Act.put, List.setIfInBounds_toArray, List.set_cons_zero, List.set_cons_succ, i64_w, i32_w]
         rfl
        refine pure_ (i := 33) (N := some 56) (v := ?_) (a' := ?_) #[true, true, true, true, true, true, true, true, true, true, true, true, true, true, true, true, true, true, true, true, true, true, true, true, true, true, true, true, false, false, true, true, true, true, false, false, false, false] rfl rfl (qaq HT_.out (by kernel_rfl)) (fun _ _ _ h => h) (Or.inl ⟨by rfl, ?_⟩) ?_ ?_
        rotate_left
        ·intro w'
         go_simp
         with_reducible rfl
        rotate_left
        ·simp only [Act.put, List.setIfInBounds_toArray, List.set_cons_zero, List.set_cons_succ, i64_w, i32_w]
         rfl
        refine take_ (i := 28) (N := some 51) (v := ?_) (a' := ?_) #[true, true, true, true, true, true, true, true, true, true, true, true, true, true, true, true, true, true, true, true, true, true, true, true, true, true, true, true, true, false, true, true, true, true, false, false, false, false] rfl rfl (qbg HT_.out HW_.out (by kernel_rfl)) (fun _ _ _ h => h) (Or.inl ⟨by rfl, ?_⟩) hHeld ?_ ?_
        rotate_left
        ·rintro w' ⟨s0, s1, s2, s3, s4, s5, s6, s7, s8, s9, s10, s11, s12⟩
         go_simp
         with_reducible rfl
        rotate_left
        ·simp only [Act.put, List.setIfInBounds_toArray, List.set_cons_zero, List.set_cons_succ, i64_w, i32_w]
         rfl
        refine take_ (i := 34) (N := some 57) (v := ?_) (a' := ?_) #[true, true, true, true, true, true, true, true, true, true, true, true, true, true, true, true, true, true, true, true, true, true, true, true, true, true, true, true, true, false, true, true, true, true, true, false, false, false] rfl rfl (qbg HT_.out HW_.out (by kernel_rfl)) (fun _ _ _ h => h) (Or.inl ⟨by rfl, ?_⟩) hHeld ?_ ?_
        rotate_left
        ·rintro w' ⟨s0, s1, s2, s3, s4, s5, s6, s7, s8, s9, s10, s11, s12⟩
         go_simp
         with_reducible rfl
        rotate_left
        ·simp only [Act.put, List.setIfInBounds_toArray, List.set_cons_zero, List.set_cons_succ, i64_w, i32_w]
         rfl
        refine one_ (i := 29) (N := some 52) #[true, true, true, true, true, true, true, true, true, true, true, true, true, true, true, true, true, true, true, true, true, true, true, true, true, true, true, true, true, true, true, true, true, true, true, false, false, false] rfl rfl (qbm HT_.out (by kernel_rfl)) (by decide) (fun K hK => ?_)
        refine goes_ Try.func64 (by kernel_rfl) rfl #[.slice (some ad287) t283.length co22, .int .i64 ((rd_T83 t283 x6_1).f0)] (by rfl) rfl rfl (by (try simp only [List.map_toArray, List.map_cons, List.map_nil]); first | done | rfl | (simp only [List.length_drop, List.length_take]; rfl)) ?_
        with_reducible refine (impl_SuccessorsOf.calls k1 _ _ t283 ((rd_T83 t283 x6_1).f0) t292 _ ?side1 ?side2 A19.out).mono ?_
        (case side1 => repeat (first | exact (Kd.qbd HO_5.out).2.2 | (with_reducible first | refine Kd.qbb ?_ _ | refine Kd.qba ?_ _ | refine Kd.qbh ?_)))
        (case side2 => exact (Kd.qbd HO_5.out).2.1)
        rintro e w25 ⟨v293, rfl, ho0, hb⟩
        have HS3_ := (hb.cell (World.block_lt_of_cell? _ _ (hHeld.2.2.2.1))).trans (hHeld.2.2.2.1)
        have HS4_ := (hb.cell (World.block_lt_of_cell? _ _ (hHeld.2.2.2.2.1))).trans (hHeld.2.2.2.2.1)
        have HS5_ := (hb.cell (World.block_lt_of_cell? _ _ (hHeld.2.2.2.2.2.1))).trans (hHeld.2.2.2.2.2.1)
        have HS6_ := (hb.cell (World.block_lt_of_cell? _ _ (hHeld.2.2.2.2.2.2.1))).trans (hHeld.2.2.2.2.2.2.1)
        have HS7_ := (hb.cell (World.block_lt_of_cell? _ _ (hHeld.2.2.2.2.2.2.2.1))).trans (hHeld.2.2.2.2.2.2.2.1)
        have HS8_ := (hb.cell (World.block_lt_of_cell? _ _ (hHeld.2.2.2.2.2.2.2.2.1))).trans (hHeld.2.2.2.2.2.2.2.2.1)
        have HS9_ := (hb.cell (World.block_lt_of_cell? _ _ (hHeld.2.2.2.2.2.2.2.2.2.1))).trans (hHeld.2.2.2.2.2.2.2.2.2.1)
        have HS10_ := (hb.cell (World.block_lt_of_cell? _ _ (hHeld.2.2.2.2.2.2.2.2.2.2.1))).trans (hHeld.2.2.2.2.2.2.2.2.2.2.1)
        have HS11_ := (hb.cell (World.block_lt_of_cell? _ _ (hHeld.2.2.2.2.2.2.2.2.2.2.2.1))).trans (hHeld.2.2.2.2.2.2.2.2.2.2.2.1)
        have HS12_ := (hb.cell (World.block_lt_of_cell? _ _ (hHeld.2.2.2.2.2.2.2.2.2.2.2.2))).trans (hHeld.2.2.2.2.2.2.2.2.2.2.2.2)
        refine ⟨_, rfl, ?_⟩
        have n0_ := qad.mk (Kd.qbe (by (with_reducible repeat (first | apply Kd.qau | apply Kd.qat | apply Kd.qax)); exact HO_5.out) hb)
        have n1_ := qad.mk (Kd.qck (by (with_reducible repeat (first | apply Kd.qau | apply Kd.qat | apply Kd.qax)); exact HO_282002.out) (Kd.qco ho0) hb)
        have n2_ := qad.mk (Kd.qck (by (with_reducible repeat (first | apply Kd.qau | apply Kd.qat | apply Kd.qax)); exact HO_283000.out) (Kd.qco ho0) hb)
        have n3_ := qad.mk (Kd.qbv (Kd.qcs (Kd.qcs ho0 (Kd.R_lt (by (with_reducible repeat (first | apply Kd.qau | apply Kd.qat | apply Kd.qax)); exact HO_282002.out))) (Kd.R_lt (by (with_reducible repeat (first | apply Kd.qau | apply Kd.qat | apply Kd.qax)); exact HO_283000.out))) (qal (by repeat (first | (with_reducible first | exact HB.out | apply qac | apply qaa | apply qab | refine qaf ?_ GE281.out | refine qaf ?_ GE282.out) | exact HB.out))))
        have n4_ := qad.mk (qam (g := gb281) (o := .cells #[.int .i64 t273, .int .i64 t274, .slice Ao11 t275.length co11] 34 (0, 0)) (by (with_reducible repeat (first | refine qai ?_ _ | refine qaj ?_ | refine qah ?_ _)); exact BK281.out) hb)
        have n5_ := qad.mk (qam (g := gb282) (o := .cells #[.slice Ao12 t278.length co12] 36 (0, 0)) (by (with_reducible repeat (first | refine qai ?_ _ | refine qaj ?_ | refine qah ?_ _)); exact BK282.out) hb)
        have n6_ := qad.mk (qak (by repeat (first | (with_reducible first | exact HB.out | apply qac | apply qaa | apply qab | refine qaf ?_ GE281.out | refine qaf ?_ GE282.out) | exact HB.out)) hb)
        clear HO_5
        clear HO_282002
        clear HO_283000
        clear BK281
        clear BK282
        clear HB
        have HO_5 := n0_
        have HO_282002 := n1_
        have HO_283000 := n2_
        have HO294 := n3_
        have BK281 := n4_
        have BK282 := n5_
        have HB := n6_
        clear n0_ n1_ n2_ n3_ n4_ n5_ n6_
        (try clear hb)
        (try clear hb2)
        (try clear hk)
        (try clear hi)
        (try clear ho0)
        obtain ⟨Ao26, co26, eo26⟩ := Kd.qbq HO294.out
        (first | subst eo26 | (injection eo26 with f1_ f2_ f3_; have f4_ := f1_.symm; have f5_ := f3_.symm; clear f1_ f2_ f3_; subst f4_; subst f5_))
        refine hK.out _ _ ⟨(qag BK281.out 0).trans rfl, (qag BK281.out 1).trans rfl, (qag BK281.out 2).trans rfl, HS3_, HS4_, HS5_, HS6_, HS7_, HS8_, HS9_, HS10_, HS11_, HS12_⟩ (fun hHeld => ?_)
        clear hK K
        refine norm_ (a' := ?_) ?_ ?_
        rotate_left
        ·show Act.put _ (some 52) _ = _
         simp only [Act.put, List.setIfInBounds_toArray, List.set_cons_zero, List.set_cons_succ, i64_w, i32_w]
         rfl
        refine one_ (i := 35) (N := some 58) #[true, true, true, true, true, true, true, true, true, true, true, true, true, true, true, true, true, true, true, true, true, true, true, true, true, true, true, true, true, true, true, true, true, true, true, true, false, false] rfl rfl (qbm HT_.out (by kernel_rfl)) (by decide) (fun K hK => ?_)
        refine goes_ Try.func63 (by kernel_rfl) rfl #[.slice Ao26 t292.length co26, .int .i64 ((rd_T83 t283 x6_1).f1)] (by rfl) rfl rfl (by (try simp only [List.map_toArray, List.map_cons, List.map_nil]); first | done | rfl | (simp only [List.length_drop, List.length_take]; rfl)) ?_
        with_reducible refine (laws_has.calls k1 _ _ t292 ((rd_T83 t283 x6_1).f1) true _ ?side1 ?side2 A20.out).mono ?_
        (case side1 => repeat (first | exact (Kd.qbd HO294.out).2.2 | (with_reducible first | refine Kd.qbb ?_ _ | refine Kd.qba ?_ _ | refine Kd.qbh ?_)))
        (case side2 => exact (Kd.qbd HO294.out).2.1)
        rintro e w' ⟨rfl, ⟨nd, rfl⟩⟩
        refine ⟨_, rfl, ?_⟩
        refine hK.out _ _ ⟨(qag BK281.out 0).trans rfl, (qag BK281.out 1).trans rfl, (qag BK281.out 2).trans rfl, hHeld.2.2.2.1, hHeld.2.2.2.2.1, hHeld.2.2.2.2.2.1, hHeld.2.2.2.2.2.2.1, hHeld.2.2.2.2.2.2.2.1, hHeld.2.2.2.2.2.2.2.2.1, hHeld.2.2.2.2.2.2.2.2.2.1, hHeld.2.2.2.2.2.2.2.2.2.2.1, hHeld.2.2.2.2.2.2.2.2.2.2.2.1, hHeld.2.2.2.2.2.2.2.2.2.2.2.2⟩ (fun hHeld => ?_)
        clear hK K
        refine norm_ (a' := ?_) ?_ ?_
        rotate_left
        ·show Act.put _ (some 58) _ = _
         simp only [Act.put, List.setIfInBounds_toArray, List.set_cons_zero, List.set_cons_succ, i64_w, i32_w]
         rfl
        refine pure_ (i := 36) (N := some 59) (v := ?_) (a' := ?_) #[true, true, true, true, true, true, true, true, true, true, true, true, true, true, true, true, true, true, true, true, true, true, true, true, true, true, true, true, true, true, true, true, true, true, true, true, true, false] rfl rfl (qaq HT_.out (by kernel_rfl)) (fun _ _ _ h => h) (Or.inl ⟨by rfl, ?_⟩) ?_ ?_
        rotate_left
        ·intro w'
         go_simp
         with_reducible rfl
        rotate_left
        ·simp only [Act.put, List.setIfInBounds_toArray, List.set_cons_zero, List.set_cons_succ, i64_w, i32_w]
         rfl
        refine pure_ (i := 37) (N := some 60) (v := ?_) (a' := ?_) #[true, true, true, true, true, true, true, true, true, true, true, true, true, true, true, true, true, true, true, true, true, true, true, true, true, true, true, true, true, true, true, true, true, true, true, true, true, true] rfl rfl (qaq HT_.out (by kernel_rfl)) (fun _ _ _ h => h) (Or.inl ⟨by rfl, ?_⟩) ?_ ?_
        rotate_left
        ·intro w'
         go_simp
         with_reducible rfl
        rotate_left
        ·simp only [Act.put, List.setIfInBounds_toArray, List.set_cons_zero, List.set_cons_succ, i64_w, i32_w]
         rfl
        refine done_ (qcd HT_.out (by kernel_rfl)) ?_
        try go_wp2
        go_roundg k1
        case measure => have := HK1.out; omega
        case rel => exact ⟨(wrap64 (x6_1 + 1)), (by first | rfl | (simp; done) | (simp [*]; done)), H', ⟨by have := HK1.out; omega⟩, ⟨by (with_reducible repeat (first | apply Kd.qau | apply Kd.qat | apply Kd.qax)); exact HO_5.out⟩, ⟨by (with_reducible repeat (first | apply Kd.qau | apply Kd.qat | apply Kd.qax)); exact Kd.qbl HO_282002.out (fun _ hk => by first | exact hk.1 | (simp_all; done) | grind)⟩, ⟨by (with_reducible repeat (first | apply Kd.qau | apply Kd.qat | apply Kd.qax)); exact Kd.qbl HO_283000.out (fun _ hk => by first | exact hk.1 | (simp_all; done) | grind)⟩, ⟨by (with_reducible repeat (first | refine qai ?_ _ | refine qaj ?_ | refine qah ?_ _)); exact BK281.out⟩, ⟨by (with_reducible repeat (first | refine qai ?_ _ | refine qaj ?_ | refine qah ?_ _)); exact BK282.out⟩, ⟨by repeat (first | (with_reducible first | exact HB.out | apply qac | apply qaa | apply qab | refine qaf ?_ GE281.out | refine qaf ?_ GE282.out) | exact HB.out)⟩⟩
       ·replace c21 := Bool.eq_false_iff.mpr c21
        subst c21
        have H1 := H
        rw [if_neg (show ¬ (false = true) by decide)] at H1
        clear H
        have H := H1
        clear H1
        obtain rfl := Option.some.inj H
        exact absurd HRT.out (by simp)
      ·rw [if_neg c18] at H
       have c18b0 : ((wrap64 (Int.tdiv ((rd_T83 t283 x6_1).f1) 4)) == t290) = false := beq_eq_false_iff_ne.mpr c18
       have c18b1 : ((wrap64 (Int.tdiv ((rd_T83 t283 x6_1).f1) 4)) != t290) = true := bne_iff_ne.mpr c18
       obtain rfl := Option.some.inj H
       exact absurd HRT.out (by simp)
     ·rw [if_neg c16] at H
      exact absurd H (by simp)
    ·rw [if_neg c15] at H
     have c15b0 : decide (x6_1 < (t283.length : Int)) = false := decide_eq_false c15
     clear c15
     replace H := Option.bind_eq_some_iff.mp H
     obtain ⟨t286, A270, H⟩ := H
     try dsimp only at H
     have A27 := qad.mk A270
     clear A270
     obtain rfl := Option.some.inj H
     obtain ⟨Ao28, co28, eo28⟩ := Kd.qbq HO_5.out
     subst eo28
     go_wp2_with (first | ((with_reducible refine qan (f := 65) rfl ?_); refine qaw (some 62) rfl rfl Try.func65 (by kernel_rfl) rfl #[.slice Ao28 t283.length co28] rfl (by (try simp only [List.map_toArray, List.map_cons, List.map_nil]); first | done | rfl | (simp only [List.length_drop, List.length_take]; rfl)) ?_; (with_reducible refine (impl_DependsOk.calls k1 _ _ t283 t286 _ ?side1 ?side2 A27.out).mono ?_); (case side1 => repeat (first | exact (Kd.qbd HO_5.out).2.2 | (with_reducible first | refine Kd.qbb ?_ _ | refine Kd.qba ?_ _ | refine Kd.qbh ?_))); (case side2 => exact (Kd.qbd HO_5.out).2.1); rintro e w29 ⟨rfl, hb⟩; refine ⟨_, rfl, ?_⟩; have n0_ := qad.mk (Kd.qbe (by (with_reducible repeat (first | apply Kd.qau | apply Kd.qat | apply Kd.qax)); exact HO_5.out) hb); have n1_ := qad.mk (Kd.qbe (by (with_reducible repeat (first | apply Kd.qau | apply Kd.qat | apply Kd.qax)); exact HO_282002.out) hb); have n2_ := qad.mk (Kd.qbe (by (with_reducible repeat (first | apply Kd.qau | apply Kd.qat | apply Kd.qax)); exact HO_283000.out) hb); have n3_ := qad.mk (qam (g := gb281) (o := .cells #[.int .i64 t273, .int .i64 t274, .slice Ao11 t275.length co11] 34 (0, 0)) (by (with_reducible repeat (first | refine qai ?_ _ | refine qaj ?_ | refine qah ?_ _)); exact BK281.out) hb); have n4_ := qad.mk (qam (g := gb282) (o := .cells #[.slice Ao12 t278.length co12] 36 (0, 0)) (by (with_reducible repeat (first | refine qai ?_ _ | refine qaj ?_ | refine qah ?_ _)); exact BK282.out) hb); have n5_ := qad.mk (qak (by repeat (first | (with_reducible first | exact HB.out | apply qac | apply qaa | apply qab | refine qaf ?_ GE281.out | refine qaf ?_ GE282.out) | exact HB.out)) hb); clear HO_5; clear HO_282002; clear HO_283000; clear BK281; clear BK282; clear HB; have HO_5 := n0_; have HO_282002 := n1_; have HO_283000 := n2_; have BK281 := n3_; have BK282 := n4_; have HB := n5_; clear n0_ n1_ n2_ n3_ n4_ n5_; (try clear hb); (try clear hb2); (try clear hk); (try clear hi)))
     go_ret
     exact ⟨by first | rfl | (simp [errW_none, errW_some] <;> rfl) | (simp [*, errW_none, errW_some] <;> rfl), by repeat (first | (with_reducible first | exact HB.out | apply qac | apply qaa | apply qab | refine qaf ?_ GE281.out | refine qaf ?_ GE282.out) | exact HB.out)⟩

/-- THE ONE PURE STATEMENT of laws_FnDepends. -/
def laws_FnDepends.Pure : Prop := ∀ (l0 : List Int), l0.length ≤ maxLen → l0.length * 1 ≤ 140737488351232 → (∀ y ∈ l0, (Lit.int .u8 y).wf = true) → ∃ k, laws_FnDepends.f k l0 = some true
theorem laws_FnDepends.walk (P : laws_FnDepends.Pure) (A0 : Option Addr) (c0 : Nat) (l0 : List Int) (w : World) (hr0 : Kd.C (Kd.int .u8) w A0 l0.length l0) (hc0 : l0.length ≤ c0) (hw0 : l0.length ≤ maxLen) (hw1 : l0.length * 1 ≤ 140737488351232) (hw2 : (∀ y ∈ l0, (Lit.int .u8 y).wf = true)) :
  Calls Try.prog 12 #[.slice A0 l0.length c0] w fun e w' => e = .returned (.bool true) ∧ Below w.heap.size w w' := by
 have h := P l0 hw0 hw1 hw2
 obtain ⟨k, h⟩ := h
 refine (laws_FnDepends.calls k A0 c0 l0 true w hr0 hc0 rfl h).mono ?_
 rintro e w' ⟨rfl, hd⟩
 exact ⟨rfl, hd⟩


end Go.Proofs.Ytmfkgnfjjfnfmaa.XE
