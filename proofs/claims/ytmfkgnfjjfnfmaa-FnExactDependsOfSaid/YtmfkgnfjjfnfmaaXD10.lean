/- What is proved: contracts of functions of the program (each: where its Lean function answers, the call returns that answer); written by a program of this session. -/
import Derived.Test.YtmfkgnfjjfnfmaaXD0
import Derived.Test.YtmfkgnfjjfnfmaaXD2
import Derived.Test.YtmfkgnfjjfnfmaaXD6
import Derived.Test.YtmfkgnfjjfnfmaaXD8
import Derived.Test.YtmfkgnfjjfnfmaaXD9
namespace Go.Proofs.Ytmfkgnfjjfnfmaa.XD
open Go.RowKit Go.Proofs.YtmfkgnfjjfnfmaaW.PrintWords Go.Proofs.YtmfkgnfjjfnfmaaW.PrintLast Go.Proofs.YtmfkgnfjjfnfmaaW.PrintMore
attribute [local go_sem] qbz qbx qcf qce qbr qbq qby qbw   -- for this text's walks alone
set_option linter.unusedVariables false
set_option linter.unusedSimpArgs false

/-! ### laws_FnExactDependsOf: function 5 -/
def laws_FnExactDependsOf.j0 : Nat → List (S83) → List (S83) → Bool → Int → Int → List Int → List Int → Option (Bool)
 | 0, _, _, _, _, _, _, _ => none
 | k + 1, x6, x9, x63, x360000, x360001, x360002, x361000 => if x63 = true then (some false) else ((laws_markDependS.f k x9 1).bind fun bt403 => ((laws_heldDependS.f k bt403.2 1).bind fun t405 => (if t405 < 0 then (some false) else (if t405 = bt403.1 then ((laws_toMesh.f k x360000 x360001 x360002).bind fun bt406 => ((laws_toTable.f k x361000).bind fun t411 => ((impl_DependsOf.f k bt406.1 bt406.2.1 bt406.2.2 t411).bind fun t414 => ((laws_eqDependS.f k t414 x6).bind fun t417 => (if t417 = true then ((laws_heldDependS.f k bt403.2 1).bind fun t418 => (if t418 < 0 then (some false) else (if t418 = bt403.1 then (some true) else (some false)))) else (some false)))))) else (some false)))))
def laws_FnExactDependsOf.f (k : Nat) (a0_0 : Int) (a0_1 : Int) (l0_2 : List Int) (l1_0 : List Int) : Option (Bool) := (laws_szMesh.f a0_0 a0_1 l0_2 1048576).bind fun t361 => (if t361 < 0 then (some true) else ((laws_szTable.f l1_0 t361).bind fun t362 => (if t362 < 0 then (some true) else ((laws_toMesh.f k a0_0 a0_1 l0_2).bind fun bt363 => ((laws_toTable.f k l1_0).bind fun t368 => ((spec_DependsOf.f k bt363.1 bt363.2.1 bt363.2.2 t368).bind fun t371 => ((laws_toMesh.f k a0_0 a0_1 l0_2).bind fun bt374 => ((laws_toTable.f k l1_0).bind fun t380 => ((impl_DependsOf.f k bt374.1 bt374.2.1 bt374.2.2 t380).bind fun t384 => ((laws_eqDependS.f k t384 t371).bind fun t387 => (if t387 = true then ((laws_toMesh.f k a0_0 a0_1 l0_2).bind fun bt388 => ((laws_eqMesh.f k bt374.1 bt374.2.1 bt374.2.2 bt388.1 bt388.2.1 bt388.2.2).bind fun t393 => (if t393 = true then ((laws_toTable.f k l1_0).bind fun t394 => ((laws_eqTable.f k t380 t394).bind fun t397 => (if t397 = true then ((laws_markMesh.f k bt374.1 bt374.2.1 bt374.2.2 1).bind fun bt398 => ((laws_markTable.f k t380 bt398.1).bind fun bt400 => (if bt400.1 < 0 then (laws_FnExactDependsOf.j0 k t371 t384 true a0_0 a0_1 l0_2 l1_0) else ((laws_eqDependS.f k t384 t371).bind fun t402 => (laws_FnExactDependsOf.j0 k t371 t384 (!t402) a0_0 a0_1 l0_2 l1_0))))) else (some false)))) else (some false)))) else (some false))))))))))))
theorem laws_FnExactDependsOf.mono_l : ∀ k, (∀ y0 y1 y2 y3 y4 y5 y6, LeO (laws_FnExactDependsOf.j0 k y0 y1 y2 y3 y4 y5 y6) (laws_FnExactDependsOf.j0 (k + 1) y0 y1 y2 y3 y4 y5 y6))
 | 0 => fun _ _ _ _ _ _ _ r h => by simp [laws_FnExactDependsOf.j0] at h
 | k + 1 => by
  have ih0 := laws_FnExactDependsOf.mono_l k
  ·intro y0 y1 y2 y3 y4 y5 y6
   unfold laws_FnExactDependsOf.j0
   repeat' first
   | (with_reducible exact ih0 _ _ _ _ _ _ _)
   | (with_reducible exact impl_DependsOf.mono _ _ _ _ _)
   | (with_reducible exact laws_eqDependS.mono _ _ _)
   | (with_reducible exact laws_eqMesh.mono _ _ _ _ _ _ _)
   | (with_reducible exact laws_eqTable.mono _ _ _)
   | (with_reducible exact laws_heldDependS.mono _ _ _)
   | (with_reducible exact laws_markDependS.mono _ _ _)
   | (with_reducible exact laws_markMesh.mono _ _ _ _ _)
   | (with_reducible exact laws_markTable.mono _ _ _)
   | (with_reducible exact laws_toMesh.mono _ _ _ _)
   | (with_reducible exact laws_toTable.mono _ _)
   | (with_reducible exact spec_DependsOf.mono _ _ _ _ _)
   | (with_reducible exact LeO.refl _)
   | (with_reducible exact LeO.none _)
   | (with_reducible refine LeO.ite ?_ ?_)
   | (with_reducible refine LeO.bind ?_ (fun _ => ?_))
   | exact ih0 _ _ _ _ _ _ _
   | exact impl_DependsOf.mono _ _ _ _ _
   | exact laws_eqDependS.mono _ _ _
   | exact laws_eqMesh.mono _ _ _ _ _ _ _
   | exact laws_eqTable.mono _ _ _
   | exact laws_heldDependS.mono _ _ _
   | exact laws_markDependS.mono _ _ _
   | exact laws_markMesh.mono _ _ _ _ _
   | exact laws_markTable.mono _ _ _
   | exact laws_toMesh.mono _ _ _ _
   | exact laws_toTable.mono _ _
   | exact spec_DependsOf.mono _ _ _ _ _
   | exact LeO.none _
   | refine LeO.ite ?_ ?_
   | refine LeO.bind ?_ (fun _ => ?_)
theorem laws_FnExactDependsOf.mono : ∀ a0 a1 a2 a3 k, LeO (laws_FnExactDependsOf.f k a0 a1 a2 a3) (laws_FnExactDependsOf.f (k + 1) a0 a1 a2 a3) := by
 intro a0 a1 a2 a3 k
 have ih0 := laws_FnExactDependsOf.mono_l k
 unfold laws_FnExactDependsOf.f
 repeat' first
   | (with_reducible exact ih0 _ _ _ _ _ _ _)
   | (with_reducible exact impl_DependsOf.mono _ _ _ _ _)
   | (with_reducible exact laws_eqDependS.mono _ _ _)
   | (with_reducible exact laws_eqMesh.mono _ _ _ _ _ _ _)
   | (with_reducible exact laws_eqTable.mono _ _ _)
   | (with_reducible exact laws_heldDependS.mono _ _ _)
   | (with_reducible exact laws_markDependS.mono _ _ _)
   | (with_reducible exact laws_markMesh.mono _ _ _ _ _)
   | (with_reducible exact laws_markTable.mono _ _ _)
   | (with_reducible exact laws_toMesh.mono _ _ _ _)
   | (with_reducible exact laws_toTable.mono _ _)
   | (with_reducible exact spec_DependsOf.mono _ _ _ _ _)
   | (with_reducible exact LeO.refl _)
   | (with_reducible exact LeO.none _)
   | (with_reducible refine LeO.ite ?_ ?_)
   | (with_reducible refine LeO.bind ?_ (fun _ => ?_))
   | exact ih0 _ _ _ _ _ _ _
   | exact impl_DependsOf.mono _ _ _ _ _
   | exact laws_eqDependS.mono _ _ _
   | exact laws_eqMesh.mono _ _ _ _ _ _ _
   | exact laws_eqTable.mono _ _ _
   | exact laws_heldDependS.mono _ _ _
   | exact laws_markDependS.mono _ _ _
   | exact laws_markMesh.mono _ _ _ _ _
   | exact laws_markTable.mono _ _ _
   | exact laws_toMesh.mono _ _ _ _
   | exact laws_toTable.mono _ _
   | exact spec_DependsOf.mono _ _ _ _ _
   | exact LeO.none _
   | refine LeO.ite ?_ ?_
   | refine LeO.bind ?_ (fun _ => ?_)
set_option maxHeartbeats 8000000 in
set_option maxRecDepth 100000 in
theorem laws_FnExactDependsOf.calls (k : Nat) (a0_0 : Int) (a0_1 : Int) (A0_2 : Option Addr) (c0_2 : Nat) (l0_2 : List Int) (A1_0 : Option Addr) (c1_0 : Nat) (l1_0 : List Int) (r : Bool) (w : World) (hr0_2 : Kd.C (Kd.int .i64) w A0_2 l0_2.length l0_2) (hc0_2 : l0_2.length ≤ c0_2) (hr1_0 : Kd.C (Kd.int .i64) w A1_0 l1_0.length l1_0) (hc1_0 : l1_0.length ≤ c1_0) (hrt0 : r = true) (h : laws_FnExactDependsOf.f k a0_0 a0_1 l0_2 l1_0 = some r) :
  Calls Try.prog 5 #[.agg #[.int .i64 a0_0, .int .i64 a0_1, .slice A0_2 l0_2.length c0_2], .agg #[.slice A1_0 l1_0.length c1_0]] w fun e w' => e = .returned (.bool r) ∧ Below w.heap.size w w' := by
 have hu26 := Try.underlying26
 have hu28 := Try.underlying28
 have hu34 := Try.underlying34
 have hu36 := Try.underlying36
 have HRT := qad.mk hrt0
 clear hrt0
 have HR0_2 := qad.mk hr0_2
 have HC0_2 := qad.mk hc0_2
 clear hr0_2 hc0_2
 have HR1_0 := qad.mk hr1_0
 have HC1_0 := qad.mk hc1_0
 clear hr1_0 hc1_0
 have HB := qad.mk (Below.refl w.heap.size w)
 have H : ((laws_szMesh.f a0_0 a0_1 l0_2 1048576).bind fun t361 => (if t361 < 0 then (some true) else ((laws_szTable.f l1_0 t361).bind fun t362 => (if t362 < 0 then (some true) else ((laws_toMesh.f k a0_0 a0_1 l0_2).bind fun bt363 => ((laws_toTable.f k l1_0).bind fun t368 => ((spec_DependsOf.f k bt363.1 bt363.2.1 bt363.2.2 t368).bind fun t371 => ((laws_toMesh.f k a0_0 a0_1 l0_2).bind fun bt374 => ((laws_toTable.f k l1_0).bind fun t380 => ((impl_DependsOf.f k bt374.1 bt374.2.1 bt374.2.2 t380).bind fun t384 => ((laws_eqDependS.f k t384 t371).bind fun t387 => (if t387 = true then ((laws_toMesh.f k a0_0 a0_1 l0_2).bind fun bt388 => ((laws_eqMesh.f k bt374.1 bt374.2.1 bt374.2.2 bt388.1 bt388.2.1 bt388.2.2).bind fun t393 => (if t393 = true then ((laws_toTable.f k l1_0).bind fun t394 => ((laws_eqTable.f k t380 t394).bind fun t397 => (if t397 = true then ((laws_markMesh.f k bt374.1 bt374.2.1 bt374.2.2 1).bind fun bt398 => ((laws_markTable.f k t380 bt398.1).bind fun bt400 => (if bt400.1 < 0 then (laws_FnExactDependsOf.j0 k t371 t384 true a0_0 a0_1 l0_2 l1_0) else ((laws_eqDependS.f k t384 t371).bind fun t402 => (laws_FnExactDependsOf.j0 k t371 t384 (!t402) a0_0 a0_1 l0_2 l1_0))))) else (some false)))) else (some false)))) else (some false))))))))))))) = some r := h
 clear h
 replace H := Option.bind_eq_some_iff.mp H
 obtain ⟨t361, A30, H⟩ := H
 try dsimp only at H
 have A3 := qad.mk A30
 clear A30
 by_cases c4 : t361 < 0
 ·rw [if_pos c4] at H
  have c4b0 : decide (t361 < 0) = true := decide_eq_true c4
  clear c4
  obtain rfl := Option.some.inj H
  go_enter Try.func5, Try.ntmps5
  go_wp2_with (first | ((with_reducible refine qar (N := 2) rfl ?_); refine qaq ?hg (N := 2) ?hd (cs := #[.int .i64 a0_0, .int .i64 a0_1, .slice A0_2 l0_2.length c0_2]) (t := 26) ?hr ?_; (case hd => rfl); (case hg => rfl); (case hr => first | (go_simp; done) | (go_simp; rfl)); intro gb359 hg w5 hbox hb; have n0_ := qad.mk (qak (by repeat (first | (with_reducible first | exact HB.out | apply qac | apply qaa | apply qab) | exact HB.out)) hb); have n1_ := qad.mk (hbox); have n2_ := qad.mk ((by rw [hg]; exact (qal (by repeat (first | (with_reducible first | exact HB.out | apply qac | apply qaa | apply qab) | exact HB.out))) : w.heap.size ≤ gb359)); have n3_ := qad.mk ((by rw [hg]; exact (qal (by repeat (first | (with_reducible first | exact HB.out | apply qac | apply qaa | apply qab) | exact HB.out))) : w.heap.size ≤ gb359)); clear HB; have HB := n0_; have BK359 := n1_; have GW359 := n2_; have GE359 := n3_; clear n0_ n1_ n2_ n3_; clear hb hbox hg) | ((with_reducible refine qar (N := 3) rfl ?_); refine qaq ?hg (N := 3) ?hd (cs := #[.slice A1_0 l1_0.length c1_0]) (t := 28) ?hr ?_; (case hd => rfl); (case hg => rfl); (case hr => first | (go_simp; done) | (go_simp; rfl)); intro gb360 hg w6 hbox hb; have n0_ := qad.mk (qam (g := gb359) (o := .cells #[.int .i64 a0_0, .int .i64 a0_1, .slice A0_2 l0_2.length c0_2] 26 (0, 0)) (by (with_reducible repeat (first | refine qai ?_ _ | refine qaj ?_ | refine qah ?_ _)); exact BK359.out) hb); have n1_ := qad.mk (qak (by repeat (first | (with_reducible first | exact HB.out | apply qac | apply qaa | apply qab | refine qae ?_ GE359.out) | exact HB.out)) hb); have n2_ := qad.mk (hbox); have n3_ := qad.mk ((by rw [hg]; exact (qal (by repeat (first | (with_reducible first | exact HB.out | apply qac | apply qaa | apply qab | refine qae ?_ GE359.out) | exact HB.out))) : w.heap.size ≤ gb360)); have n4_ := qad.mk ((by rw [hg]; exact (qal (by repeat (first | (with_reducible first | exact HB.out | apply qac | apply qaa | apply qab | refine qae ?_ GE359.out) | exact HB.out))) : w.heap.size ≤ gb360)); have n5_ := qad.mk ((by rw [hg]; exact Nat.ne_of_lt (qbb (g := gb359) (o := .cells #[.int .i64 a0_0, .int .i64 a0_1, .slice A0_2 l0_2.length c0_2] 26 (0, 0)) (by (with_reducible repeat (first | refine qai ?_ _ | refine qaj ?_ | refine qah ?_ _)); exact BK359.out)) : gb359 ≠ gb360)); have n6_ := qad.mk ((by rw [hg]; exact Nat.ne_of_gt (qbb (g := gb359) (o := .cells #[.int .i64 a0_0, .int .i64 a0_1, .slice A0_2 l0_2.length c0_2] 26 (0, 0)) (by (with_reducible repeat (first | refine qai ?_ _ | refine qaj ?_ | refine qah ?_ _)); exact BK359.out)) : gb360 ≠ gb359)); clear BK359; clear HB; have BK359 := n0_; have HB := n1_; have BK360 := n2_; have GW360 := n3_; have GE360 := n4_; have NB359_360 := n5_; have NB360_359 := n6_; clear n0_ n1_ n2_ n3_ n4_ n5_ n6_; clear hb hbox hg; have hnb7 := NB359_360.out; have hnc7 := NB360_359.out; have hcz8_0 : w6.cell? ⟨gb359, 0, none⟩ = some (.int .i64 a0_0) := (qag BK359.out 0).trans rfl; have hcz8_1 : w6.cell? ⟨gb359, 1, none⟩ = some (.int .i64 a0_1) := (qag BK359.out 1).trans rfl; have hcz8_2 : w6.cell? ⟨gb359, 2, none⟩ = some (.slice A0_2 l0_2.length c0_2) := (qag BK359.out 2).trans rfl; have hfz8_0 := qaf BK359.out 0; have hfz8_1 := qaf BK359.out 1; have hfz8_2 := qaf BK359.out 2) | ((with_reducible refine qan (f := 15) rfl ?_); refine qay (some 16) rfl rfl Try.func15 (by kernel_rfl) rfl #[.agg #[.int .i64 a0_0, .int .i64 a0_1, .slice A0_2 l0_2.length c0_2], .int .i64 1048576] rfl (by (try simp only [List.map_toArray, List.map_cons, List.map_nil]); first | done | rfl | (simp only [List.length_drop, List.length_take]; rfl)) ?_; (with_reducible refine (laws_szMesh.calls a0_0 a0_1 _ _ l0_2 1048576 t361 _ ?side1 ?side2 A3.out).mono ?_); (case side1 => repeat (first | exact (Kd.qaz HR0_2.out HB.out) | (with_reducible first | refine Kd.qav ?_ _ | refine Kd.qau ?_ _ | refine Kd.qba ?_))); (case side2 => exact HC0_2.out); rintro e w9 ⟨rfl, hb⟩; refine ⟨_, rfl, ?_⟩; have n0_ := qad.mk (qam (g := gb359) (o := .cells #[.int .i64 a0_0, .int .i64 a0_1, .slice A0_2 l0_2.length c0_2] 26 (0, 0)) (by (with_reducible repeat (first | refine qai ?_ _ | refine qaj ?_ | refine qah ?_ _)); exact BK359.out) hb); have n1_ := qad.mk (qam (g := gb360) (o := .cells #[.slice A1_0 l1_0.length c1_0] 28 (0, 0)) (by (with_reducible repeat (first | refine qai ?_ _ | refine qaj ?_ | refine qah ?_ _)); exact BK360.out) hb); have n2_ := qad.mk (qak (by repeat (first | (with_reducible first | exact HB.out | apply qac | apply qaa | apply qab | refine qae ?_ GE359.out | refine qae ?_ GE360.out) | exact HB.out)) hb); clear BK359; clear BK360; clear HB; have BK359 := n0_; have BK360 := n1_; have HB := n2_; clear n0_ n1_ n2_; (try clear hb); (try clear hb2); (try clear hk); (try clear hi)))
  go_ret
  exact ⟨by first | rfl | (simp [errW_none, errW_some] <;> rfl) | (simp [*, errW_none, errW_some] <;> rfl), by repeat (first | (with_reducible first | exact HB.out | apply qac | apply qaa | apply qab | refine qae ?_ GE359.out | refine qae ?_ GE360.out) | exact HB.out)⟩
 ·rw [if_neg c4] at H
  have c4b0 : decide (t361 < 0) = false := decide_eq_false c4
  clear c4
  replace H := Option.bind_eq_some_iff.mp H
  obtain ⟨t362, A100, H⟩ := H
  try dsimp only at H
  have A10 := qad.mk A100
  clear A100
  by_cases c11 : t362 < 0
  ·rw [if_pos c11] at H
   have c11b0 : decide (t362 < 0) = true := decide_eq_true c11
   clear c11
   obtain rfl := Option.some.inj H
   go_enter Try.func5, Try.ntmps5
   go_wp2_with (first | ((with_reducible refine qar (N := 2) rfl ?_); refine qaq ?hg (N := 2) ?hd (cs := #[.int .i64 a0_0, .int .i64 a0_1, .slice A0_2 l0_2.length c0_2]) (t := 26) ?hr ?_; (case hd => rfl); (case hg => rfl); (case hr => first | (go_simp; done) | (go_simp; rfl)); intro gb359 hg w12 hbox hb; have n0_ := qad.mk (qak (by repeat (first | (with_reducible first | exact HB.out | apply qac | apply qaa | apply qab) | exact HB.out)) hb); have n1_ := qad.mk (hbox); have n2_ := qad.mk ((by rw [hg]; exact (qal (by repeat (first | (with_reducible first | exact HB.out | apply qac | apply qaa | apply qab) | exact HB.out))) : w.heap.size ≤ gb359)); have n3_ := qad.mk ((by rw [hg]; exact (qal (by repeat (first | (with_reducible first | exact HB.out | apply qac | apply qaa | apply qab) | exact HB.out))) : w.heap.size ≤ gb359)); clear HB; have HB := n0_; have BK359 := n1_; have GW359 := n2_; have GE359 := n3_; clear n0_ n1_ n2_ n3_; clear hb hbox hg) | ((with_reducible refine qar (N := 3) rfl ?_); refine qaq ?hg (N := 3) ?hd (cs := #[.slice A1_0 l1_0.length c1_0]) (t := 28) ?hr ?_; (case hd => rfl); (case hg => rfl); (case hr => first | (go_simp; done) | (go_simp; rfl)); intro gb360 hg w13 hbox hb; have n0_ := qad.mk (qam (g := gb359) (o := .cells #[.int .i64 a0_0, .int .i64 a0_1, .slice A0_2 l0_2.length c0_2] 26 (0, 0)) (by (with_reducible repeat (first | refine qai ?_ _ | refine qaj ?_ | refine qah ?_ _)); exact BK359.out) hb); have n1_ := qad.mk (qak (by repeat (first | (with_reducible first | exact HB.out | apply qac | apply qaa | apply qab | refine qae ?_ GE359.out) | exact HB.out)) hb); have n2_ := qad.mk (hbox); have n3_ := qad.mk ((by rw [hg]; exact (qal (by repeat (first | (with_reducible first | exact HB.out | apply qac | apply qaa | apply qab | refine qae ?_ GE359.out) | exact HB.out))) : w.heap.size ≤ gb360)); have n4_ := qad.mk ((by rw [hg]; exact (qal (by repeat (first | (with_reducible first | exact HB.out | apply qac | apply qaa | apply qab | refine qae ?_ GE359.out) | exact HB.out))) : w.heap.size ≤ gb360)); have n5_ := qad.mk ((by rw [hg]; exact Nat.ne_of_lt (qbb (g := gb359) (o := .cells #[.int .i64 a0_0, .int .i64 a0_1, .slice A0_2 l0_2.length c0_2] 26 (0, 0)) (by (with_reducible repeat (first | refine qai ?_ _ | refine qaj ?_ | refine qah ?_ _)); exact BK359.out)) : gb359 ≠ gb360)); have n6_ := qad.mk ((by rw [hg]; exact Nat.ne_of_gt (qbb (g := gb359) (o := .cells #[.int .i64 a0_0, .int .i64 a0_1, .slice A0_2 l0_2.length c0_2] 26 (0, 0)) (by (with_reducible repeat (first | refine qai ?_ _ | refine qaj ?_ | refine qah ?_ _)); exact BK359.out)) : gb360 ≠ gb359)); clear BK359; clear HB; have BK359 := n0_; have HB := n1_; have BK360 := n2_; have GW360 := n3_; have GE360 := n4_; have NB359_360 := n5_; have NB360_359 := n6_; clear n0_ n1_ n2_ n3_ n4_ n5_ n6_; clear hb hbox hg; have hnb14 := NB359_360.out; have hnc14 := NB360_359.out; have hcz15_0 : w13.cell? ⟨gb359, 0, none⟩ = some (.int .i64 a0_0) := (qag BK359.out 0).trans rfl; have hcz15_1 : w13.cell? ⟨gb359, 1, none⟩ = some (.int .i64 a0_1) := (qag BK359.out 1).trans rfl; have hcz15_2 : w13.cell? ⟨gb359, 2, none⟩ = some (.slice A0_2 l0_2.length c0_2) := (qag BK359.out 2).trans rfl; have hfz15_0 := qaf BK359.out 0; have hfz15_1 := qaf BK359.out 1; have hfz15_2 := qaf BK359.out 2) | ((with_reducible refine qan (f := 15) rfl ?_); refine qay (some 16) rfl rfl Try.func15 (by kernel_rfl) rfl #[.agg #[.int .i64 a0_0, .int .i64 a0_1, .slice A0_2 l0_2.length c0_2], .int .i64 1048576] rfl (by (try simp only [List.map_toArray, List.map_cons, List.map_nil]); first | done | rfl | (simp only [List.length_drop, List.length_take]; rfl)) ?_; (with_reducible refine (laws_szMesh.calls a0_0 a0_1 _ _ l0_2 1048576 t361 _ ?side1 ?side2 A3.out).mono ?_); (case side1 => repeat (first | exact (Kd.qaz HR0_2.out HB.out) | (with_reducible first | refine Kd.qav ?_ _ | refine Kd.qau ?_ _ | refine Kd.qba ?_))); (case side2 => exact HC0_2.out); rintro e w16 ⟨rfl, hb⟩; refine ⟨_, rfl, ?_⟩; have n0_ := qad.mk (qam (g := gb359) (o := .cells #[.int .i64 a0_0, .int .i64 a0_1, .slice A0_2 l0_2.length c0_2] 26 (0, 0)) (by (with_reducible repeat (first | refine qai ?_ _ | refine qaj ?_ | refine qah ?_ _)); exact BK359.out) hb); have n1_ := qad.mk (qam (g := gb360) (o := .cells #[.slice A1_0 l1_0.length c1_0] 28 (0, 0)) (by (with_reducible repeat (first | refine qai ?_ _ | refine qaj ?_ | refine qah ?_ _)); exact BK360.out) hb); have n2_ := qad.mk (qak (by repeat (first | (with_reducible first | exact HB.out | apply qac | apply qaa | apply qab | refine qae ?_ GE359.out | refine qae ?_ GE360.out) | exact HB.out)) hb); clear BK359; clear BK360; clear HB; have BK359 := n0_; have BK360 := n1_; have HB := n2_; clear n0_ n1_ n2_; (try clear hb); (try clear hb2); (try clear hk); (try clear hi); have hcz17_0 : w16.cell? ⟨gb360, 0, none⟩ = some (.slice A1_0 l1_0.length c1_0) := (qag BK360.out 0).trans rfl; have hfz17_0 := qaf BK360.out 0) | ((with_reducible refine qan (f := 16) rfl ?_); refine qay (some 21) rfl rfl Try.func16 (by kernel_rfl) rfl #[.agg #[.slice A1_0 l1_0.length c1_0], .int .i64 t361] rfl (by (try simp only [List.map_toArray, List.map_cons, List.map_nil]); first | done | rfl | (simp only [List.length_drop, List.length_take]; rfl)) ?_; (with_reducible refine (laws_szTable.calls _ _ l1_0 t361 t362 _ ?side1 ?side2 A10.out).mono ?_); (case side1 => repeat (first | exact (Kd.qaz HR1_0.out HB.out) | (with_reducible first | refine Kd.qav ?_ _ | refine Kd.qau ?_ _ | refine Kd.qba ?_))); (case side2 => exact HC1_0.out); rintro e w18 ⟨rfl, hb⟩; refine ⟨_, rfl, ?_⟩; have n0_ := qad.mk (qam (g := gb359) (o := .cells #[.int .i64 a0_0, .int .i64 a0_1, .slice A0_2 l0_2.length c0_2] 26 (0, 0)) (by (with_reducible repeat (first | refine qai ?_ _ | refine qaj ?_ | refine qah ?_ _)); exact BK359.out) hb); have n1_ := qad.mk (qam (g := gb360) (o := .cells #[.slice A1_0 l1_0.length c1_0] 28 (0, 0)) (by (with_reducible repeat (first | refine qai ?_ _ | refine qaj ?_ | refine qah ?_ _)); exact BK360.out) hb); have n2_ := qad.mk (qak (by repeat (first | (with_reducible first | exact HB.out | apply qac | apply qaa | apply qab | refine qae ?_ GE359.out | refine qae ?_ GE360.out) | exact HB.out)) hb); clear BK359; clear BK360; clear HB; have BK359 := n0_; have BK360 := n1_; have HB := n2_; clear n0_ n1_ n2_; (try clear hb); (try clear hb2); (try clear hk); (try clear hi)))
   go_ret
   exact ⟨by first | rfl | (simp [errW_none, errW_some] <;> rfl) | (simp [*, errW_none, errW_some] <;> rfl), by repeat (first | (with_reducible first | exact HB.out | apply qac | apply qaa | apply qab | refine qae ?_ GE359.out | refine qae ?_ GE360.out) | exact HB.out)⟩
  ·rw [if_neg c11] at H
   have c11b0 : decide (t362 < 0) = false := decide_eq_false c11
   clear c11
   replace H := Option.bind_eq_some_iff.mp H
   obtain ⟨⟨t363, t364, t365⟩, A190, H⟩ := H
   try dsimp only at H
   have A19 := qad.mk A190
   clear A190
   replace H := Option.bind_eq_some_iff.mp H
   obtain ⟨t368, A200, H⟩ := H
   try dsimp only at H
   have A20 := qad.mk A200
   clear A200
   replace H := Option.bind_eq_some_iff.mp H
   obtain ⟨t371, A210, H⟩ := H
   try dsimp only at H
   have A21 := qad.mk A210
   clear A210
   replace H := Option.bind_eq_some_iff.mp H
   obtain ⟨⟨t374, t375, t376⟩, A220, H⟩ := H
   try dsimp only at H
   have A22 := qad.mk A220
   clear A220
   replace H := Option.bind_eq_some_iff.mp H
   obtain ⟨t380, A230, H⟩ := H
   try dsimp only at H
   have A23 := qad.mk A230
   clear A230
   replace H := Option.bind_eq_some_iff.mp H
   obtain ⟨t384, A240, H⟩ := H
   try dsimp only at H
   have A24 := qad.mk A240
   clear A240
   replace H := Option.bind_eq_some_iff.mp H
   obtain ⟨t387, A250, H⟩ := H
   try dsimp only at H
   have A25 := qad.mk A250
   clear A250
   by_cases c26 : t387 = true
   ·subst c26
    have H1 := H
    rw [if_pos rfl] at H1
    clear H
    have H := H1
    clear H1
    replace H := Option.bind_eq_some_iff.mp H
    obtain ⟨⟨t388, t389, t390⟩, A270, H⟩ := H
    try dsimp only at H
    have A27 := qad.mk A270
    clear A270
    replace H := Option.bind_eq_some_iff.mp H
    obtain ⟨t393, A280, H⟩ := H
    try dsimp only at H
    have A28 := qad.mk A280
    clear A280
    by_cases c29 : t393 = true
    ·subst c29
     have H1 := H
     rw [if_pos rfl] at H1
     clear H
     have H := H1
     clear H1
     replace H := Option.bind_eq_some_iff.mp H
     obtain ⟨t394, A300, H⟩ := H
     try dsimp only at H
     have A30 := qad.mk A300
     clear A300
     replace H := Option.bind_eq_some_iff.mp H
     obtain ⟨t397, A310, H⟩ := H
     try dsimp only at H
     have A31 := qad.mk A310
     clear A310
     by_cases c32 : t397 = true
     ·subst c32
      have H1 := H
      rw [if_pos rfl] at H1
      clear H
      have H := H1
      clear H1
      replace H := Option.bind_eq_some_iff.mp H
      obtain ⟨⟨t398, t399⟩, A330, H⟩ := H
      try dsimp only at H
      have A33 := qad.mk A330
      clear A330
      replace H := Option.bind_eq_some_iff.mp H
      obtain ⟨⟨t400, t401⟩, A340, H⟩ := H
      try dsimp only at H
      have A34 := qad.mk A340
      clear A340
      have HC35 := qad.mk H
      clear H
      go_enter Try.func5, Try.ntmps5
      try go_wp2_with (first | ((with_reducible refine qar (N := 2) rfl ?_); refine qaq ?hg (N := 2) ?hd (cs := #[.int .i64 a0_0, .int .i64 a0_1, .slice A0_2 l0_2.length c0_2]) (t := 26) ?hr ?_; (case hd => rfl); (case hg => rfl); (case hr => first | (go_simp; done) | (go_simp; rfl)); intro gb359 hg w36 hbox hb; have n0_ := qad.mk (qak (by repeat (first | (with_reducible first | exact HB.out | apply qac | apply qaa | apply qab) | exact HB.out)) hb); have n1_ := qad.mk (hbox); have n2_ := qad.mk ((by rw [hg]; exact (qal (by repeat (first | (with_reducible first | exact HB.out | apply qac | apply qaa | apply qab) | exact HB.out))) : w.heap.size ≤ gb359)); have n3_ := qad.mk ((by rw [hg]; exact (qal (by repeat (first | (with_reducible first | exact HB.out | apply qac | apply qaa | apply qab) | exact HB.out))) : w.heap.size ≤ gb359)); clear HB; have HB := n0_; have BK359 := n1_; have GW359 := n2_; have GE359 := n3_; clear n0_ n1_ n2_ n3_; clear hb hbox hg) | ((with_reducible refine qar (N := 3) rfl ?_); refine qaq ?hg (N := 3) ?hd (cs := #[.slice A1_0 l1_0.length c1_0]) (t := 28) ?hr ?_; (case hd => rfl); (case hg => rfl); (case hr => first | (go_simp; done) | (go_simp; rfl)); intro gb360 hg w37 hbox hb; have n0_ := qad.mk (qam (g := gb359) (o := .cells #[.int .i64 a0_0, .int .i64 a0_1, .slice A0_2 l0_2.length c0_2] 26 (0, 0)) (by (with_reducible repeat (first | refine qai ?_ _ | refine qaj ?_ | refine qah ?_ _)); exact BK359.out) hb); have n1_ := qad.mk (qak (by repeat (first | (with_reducible first | exact HB.out | apply qac | apply qaa | apply qab | refine qae ?_ GE359.out) | exact HB.out)) hb); have n2_ := qad.mk (hbox); have n3_ := qad.mk ((by rw [hg]; exact (qal (by repeat (first | (with_reducible first | exact HB.out | apply qac | apply qaa | apply qab | refine qae ?_ GE359.out) | exact HB.out))) : w.heap.size ≤ gb360)); have n4_ := qad.mk ((by rw [hg]; exact (qal (by repeat (first | (with_reducible first | exact HB.out | apply qac | apply qaa | apply qab | refine qae ?_ GE359.out) | exact HB.out))) : w.heap.size ≤ gb360)); have n5_ := qad.mk ((by rw [hg]; exact Nat.ne_of_lt (qbb (g := gb359) (o := .cells #[.int .i64 a0_0, .int .i64 a0_1, .slice A0_2 l0_2.length c0_2] 26 (0, 0)) (by (with_reducible repeat (first | refine qai ?_ _ | refine qaj ?_ | refine qah ?_ _)); exact BK359.out)) : gb359 ≠ gb360)); have n6_ := qad.mk ((by rw [hg]; exact Nat.ne_of_gt (qbb (g := gb359) (o := .cells #[.int .i64 a0_0, .int .i64 a0_1, .slice A0_2 l0_2.length c0_2] 26 (0, 0)) (by (with_reducible repeat (first | refine qai ?_ _ | refine qaj ?_ | refine qah ?_ _)); exact BK359.out)) : gb360 ≠ gb359)); clear BK359; clear HB; have BK359 := n0_; have HB := n1_; have BK360 := n2_; have GW360 := n3_; have GE360 := n4_; have NB359_360 := n5_; have NB360_359 := n6_; clear n0_ n1_ n2_ n3_ n4_ n5_ n6_; clear hb hbox hg; have hnb38 := NB359_360.out; have hnc38 := NB360_359.out; have hcz39_0 : w37.cell? ⟨gb359, 0, none⟩ = some (.int .i64 a0_0) := (qag BK359.out 0).trans rfl; have hcz39_1 : w37.cell? ⟨gb359, 1, none⟩ = some (.int .i64 a0_1) := (qag BK359.out 1).trans rfl; have hcz39_2 : w37.cell? ⟨gb359, 2, none⟩ = some (.slice A0_2 l0_2.length c0_2) := (qag BK359.out 2).trans rfl; have hfz39_0 := qaf BK359.out 0; have hfz39_1 := qaf BK359.out 1; have hfz39_2 := qaf BK359.out 2) | ((with_reducible refine qan (f := 15) rfl ?_); refine qay (some 16) rfl rfl Try.func15 (by kernel_rfl) rfl #[.agg #[.int .i64 a0_0, .int .i64 a0_1, .slice A0_2 l0_2.length c0_2], .int .i64 1048576] rfl (by (try simp only [List.map_toArray, List.map_cons, List.map_nil]); first | done | rfl | (simp only [List.length_drop, List.length_take]; rfl)) ?_; (with_reducible refine (laws_szMesh.calls a0_0 a0_1 _ _ l0_2 1048576 t361 _ ?side1 ?side2 A3.out).mono ?_); (case side1 => repeat (first | exact (Kd.qaz HR0_2.out HB.out) | (with_reducible first | refine Kd.qav ?_ _ | refine Kd.qau ?_ _ | refine Kd.qba ?_))); (case side2 => exact HC0_2.out); rintro e w40 ⟨rfl, hb⟩; refine ⟨_, rfl, ?_⟩; have n0_ := qad.mk (qam (g := gb359) (o := .cells #[.int .i64 a0_0, .int .i64 a0_1, .slice A0_2 l0_2.length c0_2] 26 (0, 0)) (by (with_reducible repeat (first | refine qai ?_ _ | refine qaj ?_ | refine qah ?_ _)); exact BK359.out) hb); have n1_ := qad.mk (qam (g := gb360) (o := .cells #[.slice A1_0 l1_0.length c1_0] 28 (0, 0)) (by (with_reducible repeat (first | refine qai ?_ _ | refine qaj ?_ | refine qah ?_ _)); exact BK360.out) hb); have n2_ := qad.mk (qak (by repeat (first | (with_reducible first | exact HB.out | apply qac | apply qaa | apply qab | refine qae ?_ GE359.out | refine qae ?_ GE360.out) | exact HB.out)) hb); clear BK359; clear BK360; clear HB; have BK359 := n0_; have BK360 := n1_; have HB := n2_; clear n0_ n1_ n2_; (try clear hb); (try clear hb2); (try clear hk); (try clear hi); have hcz41_0 : w40.cell? ⟨gb360, 0, none⟩ = some (.slice A1_0 l1_0.length c1_0) := (qag BK360.out 0).trans rfl; have hfz41_0 := qaf BK360.out 0) | ((with_reducible refine qan (f := 16) rfl ?_); refine qay (some 21) rfl rfl Try.func16 (by kernel_rfl) rfl #[.agg #[.slice A1_0 l1_0.length c1_0], .int .i64 t361] rfl (by (try simp only [List.map_toArray, List.map_cons, List.map_nil]); first | done | rfl | (simp only [List.length_drop, List.length_take]; rfl)) ?_; (with_reducible refine (laws_szTable.calls _ _ l1_0 t361 t362 _ ?side1 ?side2 A10.out).mono ?_); (case side1 => repeat (first | exact (Kd.qaz HR1_0.out HB.out) | (with_reducible first | refine Kd.qav ?_ _ | refine Kd.qau ?_ _ | refine Kd.qba ?_))); (case side2 => exact HC1_0.out); rintro e w42 ⟨rfl, hb⟩; refine ⟨_, rfl, ?_⟩; have n0_ := qad.mk (qam (g := gb359) (o := .cells #[.int .i64 a0_0, .int .i64 a0_1, .slice A0_2 l0_2.length c0_2] 26 (0, 0)) (by (with_reducible repeat (first | refine qai ?_ _ | refine qaj ?_ | refine qah ?_ _)); exact BK359.out) hb); have n1_ := qad.mk (qam (g := gb360) (o := .cells #[.slice A1_0 l1_0.length c1_0] 28 (0, 0)) (by (with_reducible repeat (first | refine qai ?_ _ | refine qaj ?_ | refine qah ?_ _)); exact BK360.out) hb); have n2_ := qad.mk (qak (by repeat (first | (with_reducible first | exact HB.out | apply qac | apply qaa | apply qab | refine qae ?_ GE359.out | refine qae ?_ GE360.out) | exact HB.out)) hb); clear BK359; clear BK360; clear HB; have BK359 := n0_; have BK360 := n1_; have HB := n2_; clear n0_ n1_ n2_; (try clear hb); (try clear hb2); (try clear hk); (try clear hi)))
      have n0_ := qad.mk (qaj BK359.out)
      have n1_ := qad.mk (qaj BK360.out)
      have n2_ := qad.mk (qab HB.out)
      clear BK359
      clear BK360
      clear HB
      have BK359 := n0_
      have BK360 := n1_
      have HB := n2_
      clear n0_ n1_ n2_
      refine qcb (n := 6) (S := fun w' => w'.cell? ⟨gb359, 0, none⟩ = some (.int .i64 a0_0) ∧ w'.cell? ⟨gb359, 1, none⟩ = some (.int .i64 a0_1) ∧ w'.cell? ⟨gb359, 2, none⟩ = some (.slice A0_2 l0_2.length c0_2) ∧ w'.cell? ⟨gb360, 0, none⟩ = some (.slice A1_0 l1_0.length c1_0)) (ds := []) #[false, false, false, false, false, false] (by kernel_rfl) rfl rfl ⟨(qag BK359.out 0).trans rfl, (qag BK359.out 1).trans rfl, (qag BK359.out 2).trans rfl, (qag BK360.out 0).trans rfl⟩ (fun hHeld => ?_)
      generalize w42.drew = w43 at BK359 BK360 HB hHeld ⊢
      refine take_ (i := 0) (N := some 24) (v := ?_) (a' := ?_) #[true, false, false, false, false, false] rfl rfl (by kernel_rfl) (fun _ _ _ h => h) (Or.inl ⟨by rfl, ?_⟩) hHeld ?_ ?_
      rotate_left
      ·rintro w' ⟨s0, s1, s2, s3⟩
       go_simp
       with_reducible rfl
      rotate_left
      ·simp only [Act.put, List.setIfInBounds_toArray, List.set_cons_zero, List.set_cons_succ, i64_w, i32_w]
       rfl
      refine take_ (i := 2) (N := some 26) (v := ?_) (a' := ?_) #[true, false, true, false, false, false] rfl rfl (by kernel_rfl) (fun _ _ _ h => h) (Or.inl ⟨by rfl, ?_⟩) hHeld ?_ ?_
      rotate_left
      ·rintro w' ⟨s0, s1, s2, s3⟩
       go_simp
       with_reducible rfl
      rotate_left
      ·simp only [Act.put, List.setIfInBounds_toArray, List.set_cons_zero, List.set_cons_succ, i64_w, i32_w]
       rfl
      refine one_ (i := 1) (N := some 25) #[true, true, true, false, false, false] rfl rfl (by kernel_rfl) (by decide) (fun K hK => ?_)
      refine goes_ Try.func18 (by kernel_rfl) rfl #[.agg #[.int .i64 a0_0, .int .i64 a0_1, .slice A0_2 l0_2.length c0_2]] (by rfl) rfl rfl (by (try simp only [List.map_toArray, List.map_cons, List.map_nil]); first | done | rfl | (simp only [List.length_drop, List.length_take]; rfl)) ?_
      with_reducible refine (laws_toMesh.calls k a0_0 a0_1 _ _ l0_2 t363 t364 t365 _ ?side1 ?side2 A19.out).mono ?_
      (case side1 => repeat (first | exact (Kd.qaz HR0_2.out HB.out) | (with_reducible first | refine Kd.qav ?_ _ | refine Kd.qau ?_ _ | refine Kd.qba ?_)))
      (case side2 => exact HC0_2.out)
      rintro e w44 ⟨v366, rfl, ho0, hb⟩
      refine ⟨_, rfl, ?_⟩
      have n0_ := qad.mk (Kd.qbi ho0 (qal (by repeat (first | (with_reducible first | exact HB.out | apply qac | apply qaa | apply qab | refine qae ?_ GE359.out | refine qae ?_ GE360.out) | exact HB.out))))
      have n1_ := qad.mk (qam (g := gb359) (o := .cells #[.int .i64 a0_0, .int .i64 a0_1, .slice A0_2 l0_2.length c0_2] 26 (0, 0)) (by (with_reducible repeat (first | refine qai ?_ _ | refine qaj ?_ | refine qah ?_ _)); exact BK359.out) hb)
      have n2_ := qad.mk (qam (g := gb360) (o := .cells #[.slice A1_0 l1_0.length c1_0] 28 (0, 0)) (by (with_reducible repeat (first | refine qai ?_ _ | refine qaj ?_ | refine qah ?_ _)); exact BK360.out) hb)
      have n3_ := qad.mk (qak (by repeat (first | (with_reducible first | exact HB.out | apply qac | apply qaa | apply qab | refine qae ?_ GE359.out | refine qae ?_ GE360.out) | exact HB.out)) hb)
      clear BK359
      clear BK360
      clear HB
      have HO367 := n0_
      have BK359 := n1_
      have BK360 := n2_
      have HB := n3_
      clear n0_ n1_ n2_ n3_
      (try clear hb)
      (try clear hb2)
      (try clear hk)
      (try clear hi)
      (try clear ho0)
      refine hK.out _ _ ⟨(qag BK359.out 0).trans rfl, (qag BK359.out 1).trans rfl, (qag BK359.out 2).trans rfl, (qag BK360.out 0).trans rfl⟩ (fun hHeld => ?_)
      clear hK K
      refine norm_ (a' := ?_) ?_ ?_
      rotate_left
      ·show Act.put _ (some 25) _ = _
       simp only [Act.put, List.setIfInBounds_toArray, List.set_cons_zero, List.set_cons_succ, i64_w, i32_w]
       rfl
      refine one_ (i := 3) (N := some 27) #[true, true, true, true, false, false] rfl rfl (by kernel_rfl) (by decide) (fun K hK => ?_)
      refine goes_ Try.func19 (by kernel_rfl) rfl #[.agg #[.slice A1_0 l1_0.length c1_0]] (by rfl) rfl rfl (by (try simp only [List.map_toArray, List.map_cons, List.map_nil]); first | done | rfl | (simp only [List.length_drop, List.length_take]; rfl)) ?_
      with_reducible refine (laws_toTable.calls k _ _ l1_0 t368 _ ?side1 ?side2 A20.out).mono ?_
      (case side1 => repeat (first | exact (Kd.qaz HR1_0.out HB.out) | (with_reducible first | refine Kd.qav ?_ _ | refine Kd.qau ?_ _ | refine Kd.qba ?_)))
      (case side2 => exact HC1_0.out)
      rintro e w45 ⟨v369, rfl, ho0, hb⟩
      refine ⟨_, rfl, ?_⟩
      have n0_ := qad.mk (Kd.qbf (by (with_reducible repeat (first | apply Kd.qap | apply Kd.qao | apply Kd.qas)); exact HO367.out) (Kd.qbk ho0) hb)
      have n1_ := qad.mk (Kd.qbi (Kd.qbl ho0 (Kd.R_lt (by (with_reducible repeat (first | apply Kd.qap | apply Kd.qao | apply Kd.qas)); exact HO367.out))) (qal (by repeat (first | (with_reducible first | exact HB.out | apply qac | apply qaa | apply qab | refine qae ?_ GE359.out | refine qae ?_ GE360.out) | exact HB.out))))
      have n2_ := qad.mk (qam (g := gb359) (o := .cells #[.int .i64 a0_0, .int .i64 a0_1, .slice A0_2 l0_2.length c0_2] 26 (0, 0)) (by (with_reducible repeat (first | refine qai ?_ _ | refine qaj ?_ | refine qah ?_ _)); exact BK359.out) hb)
      have n3_ := qad.mk (qam (g := gb360) (o := .cells #[.slice A1_0 l1_0.length c1_0] 28 (0, 0)) (by (with_reducible repeat (first | refine qai ?_ _ | refine qaj ?_ | refine qah ?_ _)); exact BK360.out) hb)
      have n4_ := qad.mk (qak (by repeat (first | (with_reducible first | exact HB.out | apply qac | apply qaa | apply qab | refine qae ?_ GE359.out | refine qae ?_ GE360.out) | exact HB.out)) hb)
      clear HO367
      clear BK359
      clear BK360
      clear HB
      have HO367 := n0_
      have HO370 := n1_
      have BK359 := n2_
      have BK360 := n3_
      have HB := n4_
      clear n0_ n1_ n2_ n3_ n4_
      (try clear hb)
      (try clear hb2)
      (try clear hk)
      (try clear hi)
      (try clear ho0)
      obtain ⟨Ao46, co46, eo46⟩ := Kd.qbg HO367.out
      (first | subst eo46 | (injection eo46 with f1_ f2_ f3_; have f4_ := f1_.symm; have f5_ := f3_.symm; clear f1_ f2_ f3_; subst f4_; subst f5_))
      obtain ⟨Ao47, co47, eo47⟩ := Kd.qbg HO370.out
      (first | subst eo47 | (injection eo47 with f1_ f2_ f3_; have f4_ := f1_.symm; have f5_ := f3_.symm; clear f1_ f2_ f3_; subst f4_; subst f5_))
      refine hK.out _ _ ⟨(qag BK359.out 0).trans rfl, (qag BK359.out 1).trans rfl, (qag BK359.out 2).trans rfl, (qag BK360.out 0).trans rfl⟩ (fun hHeld => ?_)
      clear hK K
      refine norm_ (a' := ?_) ?_ ?_
      rotate_left
      ·show Act.put _ (some 27) _ = _
       simp only [Act.put, List.setIfInBounds_toArray, List.set_cons_zero, List.set_cons_succ, i64_w, i32_w]
       rfl
      refine one_ (i := 4) (N := some 28) #[true, true, true, true, true, false] rfl rfl (by kernel_rfl) (by decide) (fun K hK => ?_)
      refine goes_ Try.func31 (by kernel_rfl) rfl #[.agg #[.int .i64 t363, .int .i64 t364, .slice Ao46 t365.length co46], .agg #[.slice Ao47 t368.length co47]] (by rfl) rfl rfl (by (try simp only [List.map_toArray, List.map_cons, List.map_nil]); first | done | rfl | (simp only [List.length_drop, List.length_take]; rfl)) ?_
      with_reducible refine (spec_DependsOf.calls k t363 t364 _ _ t365 _ _ t368 t371 _ ?side1 ?side2 ?side3 ?side4 A21.out).mono ?_
      (case side1 => repeat (first | exact (Kd.qaw HO367.out).2.2 | (with_reducible first | refine Kd.qav ?_ _ | refine Kd.qau ?_ _ | refine Kd.qba ?_)))
      (case side2 => exact (Kd.qaw HO367.out).2.1)
      (case side3 => repeat (first | exact (Kd.qaw HO370.out).2.2 | (with_reducible first | refine Kd.qav ?_ _ | refine Kd.qau ?_ _ | refine Kd.qba ?_)))
      (case side4 => exact (Kd.qaw HO370.out).2.1)
      rintro e w48 ⟨v372, rfl, ho0, hb⟩
      refine ⟨_, rfl, ?_⟩
      have n0_ := qad.mk (Kd.qax (by (with_reducible repeat (first | apply Kd.qap | apply Kd.qao | apply Kd.qas)); exact HO367.out) hb)
      have n1_ := qad.mk (Kd.qax (by (with_reducible repeat (first | apply Kd.qap | apply Kd.qao | apply Kd.qas)); exact HO370.out) hb)
      have n2_ := qad.mk (Kd.qbi ho0 (qal (by repeat (first | (with_reducible first | exact HB.out | apply qac | apply qaa | apply qab | refine qae ?_ GE359.out | refine qae ?_ GE360.out) | exact HB.out))))
      have n3_ := qad.mk (qam (g := gb359) (o := .cells #[.int .i64 a0_0, .int .i64 a0_1, .slice A0_2 l0_2.length c0_2] 26 (0, 0)) (by (with_reducible repeat (first | refine qai ?_ _ | refine qaj ?_ | refine qah ?_ _)); exact BK359.out) hb)
      have n4_ := qad.mk (qam (g := gb360) (o := .cells #[.slice A1_0 l1_0.length c1_0] 28 (0, 0)) (by (with_reducible repeat (first | refine qai ?_ _ | refine qaj ?_ | refine qah ?_ _)); exact BK360.out) hb)
      have n5_ := qad.mk (qak (by repeat (first | (with_reducible first | exact HB.out | apply qac | apply qaa | apply qab | refine qae ?_ GE359.out | refine qae ?_ GE360.out) | exact HB.out)) hb)
      clear HO367
      clear HO370
      clear BK359
      clear BK360
      clear HB
      have HO367 := n0_
      have HO370 := n1_
      have HO373 := n2_
      have BK359 := n3_
      have BK360 := n4_
      have HB := n5_
      clear n0_ n1_ n2_ n3_ n4_ n5_
      (try clear hb)
      (try clear hb2)
      (try clear hk)
      (try clear hi)
      (try clear ho0)
      refine hK.out _ _ ⟨(qag BK359.out 0).trans rfl, (qag BK359.out 1).trans rfl, (qag BK359.out 2).trans rfl, (qag BK360.out 0).trans rfl⟩ (fun hHeld => ?_)
      clear hK K
      refine norm_ (a' := ?_) ?_ ?_
      rotate_left
      ·show Act.put _ (some 28) _ = _
       simp only [Act.put, List.setIfInBounds_toArray, List.set_cons_zero, List.set_cons_succ, i64_w, i32_w]
       rfl
      refine pure_ (i := 5) (N := some 6) (v := ?_) (a' := ?_) #[true, true, true, true, true, true] rfl rfl (by kernel_rfl) (fun _ _ _ h => h) (Or.inl ⟨by rfl, ?_⟩) ?_ ?_
      rotate_left
      ·intro w'
       go_simp
       with_reducible rfl
      rotate_left
      ·simp only [Act.put, List.setIfInBounds_toArray, List.set_cons_zero, List.set_cons_succ, i64_w, i32_w]
       rfl
      refine done_ (by kernel_rfl) ?_
      have hcz49_0 : w48.cell? ⟨gb359, 0, none⟩ = some (.int .i64 a0_0) := (qag BK359.out 0).trans rfl
      have hcz49_1 : w48.cell? ⟨gb359, 1, none⟩ = some (.int .i64 a0_1) := (qag BK359.out 1).trans rfl
      have hcz49_2 : w48.cell? ⟨gb359, 2, none⟩ = some (.slice A0_2 l0_2.length c0_2) := (qag BK359.out 2).trans rfl
      have hfz49_0 := qaf BK359.out 0
      have hfz49_1 := qaf BK359.out 1
      have hfz49_2 := qaf BK359.out 2
      try go_wp2_with (first | ((with_reducible refine qan (f := 18) rfl ?_); refine qay (some 30) rfl rfl Try.func18 (by kernel_rfl) rfl #[.agg #[.int .i64 a0_0, .int .i64 a0_1, .slice A0_2 l0_2.length c0_2]] rfl (by (try simp only [List.map_toArray, List.map_cons, List.map_nil]); first | done | rfl | (simp only [List.length_drop, List.length_take]; rfl)) ?_; (with_reducible refine (laws_toMesh.calls k a0_0 a0_1 _ _ l0_2 t374 t375 t376 _ ?side1 ?side2 A22.out).mono ?_); (case side1 => repeat (first | exact (Kd.qaz HR0_2.out HB.out) | (with_reducible first | refine Kd.qav ?_ _ | refine Kd.qau ?_ _ | refine Kd.qba ?_))); (case side2 => exact HC0_2.out); rintro e w50 ⟨v377, rfl, ho0, hb⟩; refine ⟨_, rfl, ?_⟩; have n0_ := qad.mk (Kd.qbf (by (with_reducible repeat (first | apply Kd.qap | apply Kd.qao | apply Kd.qas)); exact HO367.out) (Kd.qbk ho0) hb); have n1_ := qad.mk (Kd.qbf (by (with_reducible repeat (first | apply Kd.qap | apply Kd.qao | apply Kd.qas)); exact HO370.out) (Kd.qbk ho0) hb); have n2_ := qad.mk (Kd.qax (by (with_reducible repeat (first | apply Kd.qap | apply Kd.qao | apply Kd.qas)); exact HO373.out) hb); have n3_ := qad.mk (Kd.qbi (Kd.qbl (Kd.qbl ho0 (Kd.R_lt (by (with_reducible repeat (first | apply Kd.qap | apply Kd.qao | apply Kd.qas)); exact HO367.out))) (Kd.R_lt (by (with_reducible repeat (first | apply Kd.qap | apply Kd.qao | apply Kd.qas)); exact HO370.out))) (qal (by repeat (first | (with_reducible first | exact HB.out | apply qac | apply qaa | apply qab | refine qae ?_ GE359.out | refine qae ?_ GE360.out) | exact HB.out)))); have n4_ := qad.mk (qam (g := gb359) (o := .cells #[.int .i64 a0_0, .int .i64 a0_1, .slice A0_2 l0_2.length c0_2] 26 (0, 0)) (by (with_reducible repeat (first | refine qai ?_ _ | refine qaj ?_ | refine qah ?_ _)); exact BK359.out) hb); have n5_ := qad.mk (qam (g := gb360) (o := .cells #[.slice A1_0 l1_0.length c1_0] 28 (0, 0)) (by (with_reducible repeat (first | refine qai ?_ _ | refine qaj ?_ | refine qah ?_ _)); exact BK360.out) hb); have n6_ := qad.mk (qak (by repeat (first | (with_reducible first | exact HB.out | apply qac | apply qaa | apply qab | refine qae ?_ GE359.out | refine qae ?_ GE360.out) | exact HB.out)) hb); clear HO367; clear HO370; clear HO373; clear BK359; clear BK360; clear HB; have HO367 := n0_; have HO370 := n1_; have HO373 := n2_; have HO378 := n3_; have BK359 := n4_; have BK360 := n5_; have HB := n6_; clear n0_ n1_ n2_ n3_ n4_ n5_ n6_; (try clear hb); (try clear hb2); (try clear hk); (try clear hi); (try clear ho0)) | ((with_reducible refine qar (N := 7) rfl ?_); refine qaq ?hg (N := 7) ?hd (cs := #[.int .i64 0, .int .i64 0, .slice none 0 0]) (t := 34) ?hr ?_; (case hd => rfl); (case hg => rfl); (case hr => first | (go_simp; done) | (go_simp; rfl)); intro gb379 hg w51 hbox hb; have n0_ := qad.mk (Kd.qax (by (with_reducible repeat (first | apply Kd.qap | apply Kd.qao | apply Kd.qas)); exact HO367.out) hb); have n1_ := qad.mk (Kd.qax (by (with_reducible repeat (first | apply Kd.qap | apply Kd.qao | apply Kd.qas)); exact HO370.out) hb); have n2_ := qad.mk (Kd.qax (by (with_reducible repeat (first | apply Kd.qap | apply Kd.qao | apply Kd.qas)); exact HO373.out) hb); have n3_ := qad.mk (Kd.qax (by (with_reducible repeat (first | apply Kd.qap | apply Kd.qao | apply Kd.qas)); exact HO378.out) hb); have n4_ := qad.mk (qam (g := gb359) (o := .cells #[.int .i64 a0_0, .int .i64 a0_1, .slice A0_2 l0_2.length c0_2] 26 (0, 0)) (by (with_reducible repeat (first | refine qai ?_ _ | refine qaj ?_ | refine qah ?_ _)); exact BK359.out) hb); have n5_ := qad.mk (qam (g := gb360) (o := .cells #[.slice A1_0 l1_0.length c1_0] 28 (0, 0)) (by (with_reducible repeat (first | refine qai ?_ _ | refine qaj ?_ | refine qah ?_ _)); exact BK360.out) hb); have n6_ := qad.mk (qak (by repeat (first | (with_reducible first | exact HB.out | apply qac | apply qaa | apply qab | refine qae ?_ GE359.out | refine qae ?_ GE360.out) | exact HB.out)) hb); have n7_ := qad.mk (hbox); have n8_ := qad.mk ((by rw [hg]; exact (qal (by repeat (first | (with_reducible first | exact HB.out | apply qac | apply qaa | apply qab | refine qae ?_ GE359.out | refine qae ?_ GE360.out) | exact HB.out))) : w.heap.size ≤ gb379)); have n9_ := qad.mk ((by rw [hg]; exact (qal (by repeat (first | (with_reducible first | exact HB.out | apply qac | apply qaa | apply qab | refine qae ?_ GE359.out | refine qae ?_ GE360.out) | exact HB.out))) : w.heap.size ≤ gb379)); have n10_ := qad.mk ((by rw [hg]; exact Nat.ne_of_lt (qbb (g := gb359) (o := .cells #[.int .i64 a0_0, .int .i64 a0_1, .slice A0_2 l0_2.length c0_2] 26 (0, 0)) (by (with_reducible repeat (first | refine qai ?_ _ | refine qaj ?_ | refine qah ?_ _)); exact BK359.out)) : gb359 ≠ gb379)); have n11_ := qad.mk ((by rw [hg]; exact Nat.ne_of_gt (qbb (g := gb359) (o := .cells #[.int .i64 a0_0, .int .i64 a0_1, .slice A0_2 l0_2.length c0_2] 26 (0, 0)) (by (with_reducible repeat (first | refine qai ?_ _ | refine qaj ?_ | refine qah ?_ _)); exact BK359.out)) : gb379 ≠ gb359)); have n12_ := qad.mk ((by rw [hg]; exact Nat.ne_of_lt (qbb (g := gb360) (o := .cells #[.slice A1_0 l1_0.length c1_0] 28 (0, 0)) (by (with_reducible repeat (first | refine qai ?_ _ | refine qaj ?_ | refine qah ?_ _)); exact BK360.out)) : gb360 ≠ gb379)); have n13_ := qad.mk ((by rw [hg]; exact Nat.ne_of_gt (qbb (g := gb360) (o := .cells #[.slice A1_0 l1_0.length c1_0] 28 (0, 0)) (by (with_reducible repeat (first | refine qai ?_ _ | refine qaj ?_ | refine qah ?_ _)); exact BK360.out)) : gb379 ≠ gb360)); clear HO367; clear HO370; clear HO373; clear HO378; clear BK359; clear BK360; clear HB; have HO367 := n0_; have HO370 := n1_; have HO373 := n2_; have HO378 := n3_; have BK359 := n4_; have BK360 := n5_; have HB := n6_; have BK379 := n7_; have GW379 := n8_; have GE379 := n9_; have NB359_379 := n10_; have NB379_359 := n11_; have NB360_379 := n12_; have NB379_360 := n13_; clear n0_ n1_ n2_ n3_ n4_ n5_ n6_ n7_ n8_ n9_ n10_ n11_ n12_ n13_; clear hb hbox hg; have hnb52 := NB379_359.out; have hnc52 := NB359_379.out; have hnb53 := NB379_360.out; have hnc53 := NB360_379.out; have hcz54_0 : w51.cell? ⟨gb379, 0, none⟩ = some (.int .i64 0) := (qag BK379.out 0).trans rfl; have hcz54_1 : w51.cell? ⟨gb379, 1, none⟩ = some (.int .i64 0) := (qag BK379.out 1).trans rfl; have hcz54_2 : w51.cell? ⟨gb379, 2, none⟩ = some (.slice none 0 0) := (qag BK379.out 2).trans rfl; have hfz54_0 := qaf BK379.out 0; have hfz54_1 := qaf BK379.out 1; have hfz54_2 := qaf BK379.out 2; obtain ⟨Ao55, co55, eo55⟩ := Kd.qbg HO378.out; subst eo55; have hcz56_0 : w51.cell? ⟨gb360, 0, none⟩ = some (.slice A1_0 l1_0.length c1_0) := (qag BK360.out 0).trans rfl; have hfz56_0 := qaf BK360.out 0) | ((with_reducible refine qan (f := 19) rfl ?_); refine qay (some 32) rfl rfl Try.func19 (by kernel_rfl) rfl #[.agg #[.slice A1_0 l1_0.length c1_0]] rfl (by (try simp only [List.map_toArray, List.map_cons, List.map_nil]); first | done | rfl | (simp only [List.length_drop, List.length_take]; rfl)) ?_; (with_reducible refine (laws_toTable.calls k _ _ l1_0 t380 _ ?side1 ?side2 A23.out).mono ?_); (case side1 => exact Kd.qaz HR1_0.out (by repeat (first | (with_reducible first | exact HB.out | apply qac | apply qaa | apply qab | refine qae ?_ GE359.out | refine qae ?_ GE360.out | refine qae ?_ GE379.out) | exact HB.out))); (case side2 => exact HC1_0.out); rintro e w57 ⟨v381, rfl, ho0, hb⟩; refine ⟨_, rfl, ?_⟩; have n0_ := qad.mk (Kd.qbf (by (with_reducible repeat (first | apply Kd.qap | apply Kd.qao | apply Kd.qas)); exact (Kd.qbe (Kd.R_far (p := ⟨gb379, 2, none⟩) (Kd.R_far (p := ⟨gb379, 1, none⟩) (Kd.R_far (p := ⟨gb379, 0, none⟩) (Kd.qbp HO367.out BK379.out (by decide)) (fun _ hk => by first | exact hk.2 | (simp_all; done) | grind) (.int .i64 t374)) (fun _ hk => by first | exact hk.2 | (simp_all; done) | grind) (.int .i64 t375)) (fun _ hk => by first | exact hk.2 | (simp_all; done) | grind) (.slice Ao55 t376.length co55)) (fun _ h_ => h_.1))) (Kd.qbk ho0) hb); have n1_ := qad.mk (Kd.qbf (by (with_reducible repeat (first | apply Kd.qap | apply Kd.qao | apply Kd.qas)); exact (Kd.qbe (Kd.R_far (p := ⟨gb379, 2, none⟩) (Kd.R_far (p := ⟨gb379, 1, none⟩) (Kd.R_far (p := ⟨gb379, 0, none⟩) (Kd.qbp HO370.out BK379.out (by decide)) (fun _ hk => by first | exact hk.2 | (simp_all; done) | grind) (.int .i64 t374)) (fun _ hk => by first | exact hk.2 | (simp_all; done) | grind) (.int .i64 t375)) (fun _ hk => by first | exact hk.2 | (simp_all; done) | grind) (.slice Ao55 t376.length co55)) (fun _ h_ => h_.1))) (Kd.qbk ho0) hb); have n2_ := qad.mk (Kd.qax (by (with_reducible repeat (first | apply Kd.qap | apply Kd.qao | apply Kd.qas)); exact (Kd.qbe (Kd.R_far (p := ⟨gb379, 2, none⟩) (Kd.R_far (p := ⟨gb379, 1, none⟩) (Kd.R_far (p := ⟨gb379, 0, none⟩) (Kd.qbp HO373.out BK379.out (by decide)) (fun _ hk => by first | exact hk.2 | (simp_all; done) | grind) (.int .i64 t374)) (fun _ hk => by first | exact hk.2 | (simp_all; done) | grind) (.int .i64 t375)) (fun _ hk => by first | exact hk.2 | (simp_all; done) | grind) (.slice Ao55 t376.length co55)) (fun _ h_ => h_.1))) hb); have n3_ := qad.mk (Kd.qbf (by (with_reducible repeat (first | apply Kd.qap | apply Kd.qao | apply Kd.qas)); exact (Kd.qbe (Kd.R_far (p := ⟨gb379, 2, none⟩) (Kd.R_far (p := ⟨gb379, 1, none⟩) (Kd.R_far (p := ⟨gb379, 0, none⟩) (Kd.qbp HO378.out BK379.out (by decide)) (fun _ hk => by first | exact hk.2 | (simp_all; done) | grind) (.int .i64 t374)) (fun _ hk => by first | exact hk.2 | (simp_all; done) | grind) (.int .i64 t375)) (fun _ hk => by first | exact hk.2 | (simp_all; done) | grind) (.slice Ao55 t376.length co55)) (fun _ h_ => h_.1))) (Kd.qbk ho0) hb); have n4_ := qad.mk (Kd.qbi (Kd.qbl (Kd.qbl (Kd.qbl ho0 (Kd.R_lt (by (with_reducible repeat (first | apply Kd.qap | apply Kd.qao | apply Kd.qas)); exact (Kd.qbe (Kd.R_far (p := ⟨gb379, 2, none⟩) (Kd.R_far (p := ⟨gb379, 1, none⟩) (Kd.R_far (p := ⟨gb379, 0, none⟩) (Kd.qbp HO367.out BK379.out (by decide)) (fun _ hk => by first | exact hk.2 | (simp_all; done) | grind) (.int .i64 t374)) (fun _ hk => by first | exact hk.2 | (simp_all; done) | grind) (.int .i64 t375)) (fun _ hk => by first | exact hk.2 | (simp_all; done) | grind) (.slice Ao55 t376.length co55)) (fun _ h_ => h_.1))))) (Kd.R_lt (by (with_reducible repeat (first | apply Kd.qap | apply Kd.qao | apply Kd.qas)); exact (Kd.qbe (Kd.R_far (p := ⟨gb379, 2, none⟩) (Kd.R_far (p := ⟨gb379, 1, none⟩) (Kd.R_far (p := ⟨gb379, 0, none⟩) (Kd.qbp HO370.out BK379.out (by decide)) (fun _ hk => by first | exact hk.2 | (simp_all; done) | grind) (.int .i64 t374)) (fun _ hk => by first | exact hk.2 | (simp_all; done) | grind) (.int .i64 t375)) (fun _ hk => by first | exact hk.2 | (simp_all; done) | grind) (.slice Ao55 t376.length co55)) (fun _ h_ => h_.1))))) (Kd.R_lt (by (with_reducible repeat (first | apply Kd.qap | apply Kd.qao | apply Kd.qas)); exact (Kd.qbe (Kd.R_far (p := ⟨gb379, 2, none⟩) (Kd.R_far (p := ⟨gb379, 1, none⟩) (Kd.R_far (p := ⟨gb379, 0, none⟩) (Kd.qbp HO378.out BK379.out (by decide)) (fun _ hk => by first | exact hk.2 | (simp_all; done) | grind) (.int .i64 t374)) (fun _ hk => by first | exact hk.2 | (simp_all; done) | grind) (.int .i64 t375)) (fun _ hk => by first | exact hk.2 | (simp_all; done) | grind) (.slice Ao55 t376.length co55)) (fun _ h_ => h_.1))))) (qal (by repeat (first | (with_reducible first | exact HB.out | apply qac | apply qaa | apply qab | refine qae ?_ GE359.out | refine qae ?_ GE360.out | refine qae ?_ GE379.out) | exact HB.out)))); have n5_ := qad.mk (qam (g := gb359) (o := .cells #[.int .i64 a0_0, .int .i64 a0_1, .slice A0_2 l0_2.length c0_2] 26 (0, 0)) (by (with_reducible repeat (first | refine qai ?_ _ | refine qaj ?_ | refine qah ?_ _)); refine qbt ?_ NB359_379.out _; (with_reducible repeat (first | refine qai ?_ _ | refine qaj ?_ | refine qah ?_ _)); refine qbt ?_ NB359_379.out _; (with_reducible repeat (first | refine qai ?_ _ | refine qaj ?_ | refine qah ?_ _)); refine qbt ?_ NB359_379.out _; (with_reducible repeat (first | refine qai ?_ _ | refine qaj ?_ | refine qah ?_ _)); exact BK359.out) hb); have n6_ := qad.mk (qam (g := gb360) (o := .cells #[.slice A1_0 l1_0.length c1_0] 28 (0, 0)) (by (with_reducible repeat (first | refine qai ?_ _ | refine qaj ?_ | refine qah ?_ _)); refine qbt ?_ NB360_379.out _; (with_reducible repeat (first | refine qai ?_ _ | refine qaj ?_ | refine qah ?_ _)); refine qbt ?_ NB360_379.out _; (with_reducible repeat (first | refine qai ?_ _ | refine qaj ?_ | refine qah ?_ _)); refine qbt ?_ NB360_379.out _; (with_reducible repeat (first | refine qai ?_ _ | refine qaj ?_ | refine qah ?_ _)); exact BK360.out) hb); have n7_ := qad.mk (qam (g := gb379) (o := .cells #[.int .i64 t374, .int .i64 t375, .slice Ao55 t376.length co55] 34 (0, 0)) (by (with_reducible repeat (first | refine qai ?_ _ | refine qaj ?_ | refine qah ?_ _)); refine qcc (cs := #[.int .i64 t374, .int .i64 t375, .slice none 0 0]) ?_ 2 _ rfl; (with_reducible repeat (first | refine qai ?_ _ | refine qaj ?_ | refine qah ?_ _)); refine qcc (cs := #[.int .i64 t374, .int .i64 0, .slice none 0 0]) ?_ 1 _ rfl; (with_reducible repeat (first | refine qai ?_ _ | refine qaj ?_ | refine qah ?_ _)); refine qcc (cs := #[.int .i64 0, .int .i64 0, .slice none 0 0]) ?_ 0 _ rfl; (with_reducible repeat (first | refine qai ?_ _ | refine qaj ?_ | refine qah ?_ _)); exact BK379.out) hb); have n8_ := qad.mk (qak (by repeat (first | (with_reducible first | exact HB.out | apply qac | apply qaa | apply qab | refine qae ?_ GE359.out | refine qae ?_ GE360.out | refine qae ?_ GE379.out) | exact HB.out)) hb); clear HO367; clear HO370; clear HO373; clear HO378; clear BK359; clear BK360; clear BK379; clear HB; have HO367 := n0_; have HO370 := n1_; have HO373 := n2_; have HO378 := n3_; have HO382 := n4_; have BK359 := n5_; have BK360 := n6_; have BK379 := n7_; have HB := n8_; clear n0_ n1_ n2_ n3_ n4_ n5_ n6_ n7_ n8_; (try clear hb); (try clear hb2); (try clear hk); (try clear hi); (try clear ho0)) | ((with_reducible refine qar (N := 8) rfl ?_); refine qaq ?hg (N := 8) ?hd (cs := #[.slice none 0 0]) (t := 36) ?hr ?_; (case hd => rfl); (case hg => rfl); (case hr => first | (go_simp; done) | (go_simp; rfl)); intro gb383 hg w58 hbox hb; have n0_ := qad.mk (Kd.qax (by (with_reducible repeat (first | apply Kd.qap | apply Kd.qao | apply Kd.qas)); exact HO367.out) hb); have n1_ := qad.mk (Kd.qax (by (with_reducible repeat (first | apply Kd.qap | apply Kd.qao | apply Kd.qas)); exact HO370.out) hb); have n2_ := qad.mk (Kd.qax (by (with_reducible repeat (first | apply Kd.qap | apply Kd.qao | apply Kd.qas)); exact HO373.out) hb); have n3_ := qad.mk (Kd.qax (by (with_reducible repeat (first | apply Kd.qap | apply Kd.qao | apply Kd.qas)); exact HO378.out) hb); have n4_ := qad.mk (Kd.qax (by (with_reducible repeat (first | apply Kd.qap | apply Kd.qao | apply Kd.qas)); exact HO382.out) hb); have n5_ := qad.mk (qam (g := gb359) (o := .cells #[.int .i64 a0_0, .int .i64 a0_1, .slice A0_2 l0_2.length c0_2] 26 (0, 0)) (by (with_reducible repeat (first | refine qai ?_ _ | refine qaj ?_ | refine qah ?_ _)); exact BK359.out) hb); have n6_ := qad.mk (qam (g := gb360) (o := .cells #[.slice A1_0 l1_0.length c1_0] 28 (0, 0)) (by (with_reducible repeat (first | refine qai ?_ _ | refine qaj ?_ | refine qah ?_ _)); exact BK360.out) hb); have n7_ := qad.mk (qam (g := gb379) (o := .cells #[.int .i64 t374, .int .i64 t375, .slice Ao55 t376.length co55] 34 (0, 0)) (by (with_reducible repeat (first | refine qai ?_ _ | refine qaj ?_ | refine qah ?_ _)); exact BK379.out) hb); have n8_ := qad.mk (qak (by repeat (first | (with_reducible first | exact HB.out | apply qac | apply qaa | apply qab | refine qae ?_ GE359.out | refine qae ?_ GE360.out | refine qae ?_ GE379.out) | exact HB.out)) hb); have n9_ := qad.mk (hbox); have n10_ := qad.mk ((by rw [hg]; exact (qal (by repeat (first | (with_reducible first | exact HB.out | apply qac | apply qaa | apply qab | refine qae ?_ GE359.out | refine qae ?_ GE360.out | refine qae ?_ GE379.out) | exact HB.out))) : w.heap.size ≤ gb383)); have n11_ := qad.mk ((by rw [hg]; exact (qal (by repeat (first | (with_reducible first | exact HB.out | apply qac | apply qaa | apply qab | refine qae ?_ GE359.out | refine qae ?_ GE360.out | refine qae ?_ GE379.out) | exact HB.out))) : w.heap.size ≤ gb383)); have n12_ := qad.mk ((by rw [hg]; exact Nat.ne_of_lt (qbb (g := gb359) (o := .cells #[.int .i64 a0_0, .int .i64 a0_1, .slice A0_2 l0_2.length c0_2] 26 (0, 0)) (by (with_reducible repeat (first | refine qai ?_ _ | refine qaj ?_ | refine qah ?_ _)); exact BK359.out)) : gb359 ≠ gb383)); have n13_ := qad.mk ((by rw [hg]; exact Nat.ne_of_gt (qbb (g := gb359) (o := .cells #[.int .i64 a0_0, .int .i64 a0_1, .slice A0_2 l0_2.length c0_2] 26 (0, 0)) (by (with_reducible repeat (first | refine qai ?_ _ | refine qaj ?_ | refine qah ?_ _)); exact BK359.out)) : gb383 ≠ gb359)); have n14_ := qad.mk ((by rw [hg]; exact Nat.ne_of_lt (qbb (g := gb360) (o := .cells #[.slice A1_0 l1_0.length c1_0] 28 (0, 0)) (by (with_reducible repeat (first | refine qai ?_ _ | refine qaj ?_ | refine qah ?_ _)); exact BK360.out)) : gb360 ≠ gb383)); have n15_ := qad.mk ((by rw [hg]; exact Nat.ne_of_gt (qbb (g := gb360) (o := .cells #[.slice A1_0 l1_0.length c1_0] 28 (0, 0)) (by (with_reducible repeat (first | refine qai ?_ _ | refine qaj ?_ | refine qah ?_ _)); exact BK360.out)) : gb383 ≠ gb360)); have n16_ := qad.mk ((by rw [hg]; exact Nat.ne_of_lt (qbb (g := gb379) (o := .cells #[.int .i64 t374, .int .i64 t375, .slice Ao55 t376.length co55] 34 (0, 0)) (by (with_reducible repeat (first | refine qai ?_ _ | refine qaj ?_ | refine qah ?_ _)); exact BK379.out)) : gb379 ≠ gb383)); have n17_ := qad.mk ((by rw [hg]; exact Nat.ne_of_gt (qbb (g := gb379) (o := .cells #[.int .i64 t374, .int .i64 t375, .slice Ao55 t376.length co55] 34 (0, 0)) (by (with_reducible repeat (first | refine qai ?_ _ | refine qaj ?_ | refine qah ?_ _)); exact BK379.out)) : gb383 ≠ gb379)); clear HO367; clear HO370; clear HO373; clear HO378; clear HO382; clear BK359; clear BK360; clear BK379; clear HB; have HO367 := n0_; have HO370 := n1_; have HO373 := n2_; have HO378 := n3_; have HO382 := n4_; have BK359 := n5_; have BK360 := n6_; have BK379 := n7_; have HB := n8_; have BK383 := n9_; have GW383 := n10_; have GE383 := n11_; have NB359_383 := n12_; have NB383_359 := n13_; have NB360_383 := n14_; have NB383_360 := n15_; have NB379_383 := n16_; have NB383_379 := n17_; clear n0_ n1_ n2_ n3_ n4_ n5_ n6_ n7_ n8_ n9_ n10_ n11_ n12_ n13_ n14_ n15_ n16_ n17_; clear hb hbox hg; obtain ⟨Ao59, co59, eo59⟩ := Kd.qbg HO382.out; subst eo59; have hnb60 := NB383_359.out; have hnc60 := NB359_383.out; have hnb61 := NB383_360.out; have hnc61 := NB360_383.out; have hnb62 := NB383_379.out; have hnc62 := NB379_383.out; have hcz63_0 : w58.cell? ⟨gb383, 0, none⟩ = some (.slice none 0 0) := (qag BK383.out 0).trans rfl; have hfz63_0 := qaf BK383.out 0; have hcz64_0 : w58.cell? ⟨gb379, 0, none⟩ = some (.int .i64 t374) := (qag BK379.out 0).trans rfl; have hcz64_1 : w58.cell? ⟨gb379, 1, none⟩ = some (.int .i64 t375) := (qag BK379.out 1).trans rfl; have hcz64_2 : w58.cell? ⟨gb379, 2, none⟩ = some (.slice Ao55 t376.length co55) := (qag BK379.out 2).trans rfl; have hfz64_0 := qaf BK379.out 0; have hfz64_1 := qaf BK379.out 1; have hfz64_2 := qaf BK379.out 2) | ((with_reducible refine qan (f := 32) rfl ?_); refine qay (some 35) rfl rfl Try.func32 (by kernel_rfl) rfl #[.agg #[.int .i64 t374, .int .i64 t375, .slice Ao55 t376.length co55], .agg #[.slice Ao59 t380.length co59]] rfl (by (try simp only [List.map_toArray, List.map_cons, List.map_nil]); first | done | rfl | (simp only [List.length_drop, List.length_take]; rfl)) ?_; (with_reducible refine (impl_DependsOf.calls k t374 t375 _ _ t376 _ _ t380 t384 _ ?side1 ?side2 ?side3 ?side4 A24.out).mono ?_); (case side1 => refine (Kd.qaw (e := 3) (base := w.heap.size) (ok := fun k_ => (((True ∧ some k_ ≠ (.slice Ao46 t365.length co46 : Value).ownBlock) ∧ some k_ ≠ (.slice Ao47 t368.length co47 : Value).ownBlock) ∧ some k_ ≠ (.slice Ao59 t380.length co59 : Value).ownBlock)) (n := t376.length) (c := co55) ?_).2.2; exact (by (with_reducible repeat (first | apply Kd.qap | apply Kd.qao | apply Kd.qas)); exact (Kd.qbe (Kd.R_far (p := ⟨gb383, 0, none⟩) (Kd.qbp HO378.out BK383.out (by decide)) (fun _ hk => by first | exact hk.2 | (simp_all; done) | grind) (.slice Ao59 t380.length co59)) (fun _ h_ => h_.1)))); (case side2 => exact (Kd.qaw HO378.out).2.1); (case side3 => refine (Kd.qaw (e := 3) (base := w.heap.size) (ok := fun k_ => (((True ∧ some k_ ≠ (.slice Ao46 t365.length co46 : Value).ownBlock) ∧ some k_ ≠ (.slice Ao47 t368.length co47 : Value).ownBlock) ∧ some k_ ≠ (.slice Ao55 t376.length co55 : Value).ownBlock)) (n := t380.length) (c := co59) ?_).2.2; exact (by (with_reducible repeat (first | apply Kd.qap | apply Kd.qao | apply Kd.qas)); exact (Kd.qbe (Kd.R_far (p := ⟨gb383, 0, none⟩) (Kd.qbp HO382.out BK383.out (by decide)) (fun _ hk => by first | exact hk.2 | (simp_all; done) | grind) (.slice Ao59 t380.length co59)) (fun _ h_ => h_.1)))); (case side4 => exact (Kd.qaw HO382.out).2.1); rintro e w65 ⟨v385, rfl, ho0, hb⟩; refine ⟨_, rfl, ?_⟩; have n0_ := qad.mk (Kd.qax (by (with_reducible repeat (first | apply Kd.qap | apply Kd.qao | apply Kd.qas)); exact (Kd.qbe (Kd.R_far (p := ⟨gb383, 0, none⟩) (Kd.qbp HO367.out BK383.out (by decide)) (fun _ hk => by first | exact hk.2 | (simp_all; done) | grind) (.slice Ao59 t380.length co59)) (fun _ h_ => h_.1))) hb); have n1_ := qad.mk (Kd.qax (by (with_reducible repeat (first | apply Kd.qap | apply Kd.qao | apply Kd.qas)); exact (Kd.qbe (Kd.R_far (p := ⟨gb383, 0, none⟩) (Kd.qbp HO370.out BK383.out (by decide)) (fun _ hk => by first | exact hk.2 | (simp_all; done) | grind) (.slice Ao59 t380.length co59)) (fun _ h_ => h_.1))) hb); have n2_ := qad.mk (Kd.qbf (by (with_reducible repeat (first | apply Kd.qap | apply Kd.qao | apply Kd.qas)); exact (Kd.qbe (Kd.R_far (p := ⟨gb383, 0, none⟩) (Kd.qbp HO373.out BK383.out (by decide)) (fun _ hk => by first | exact hk.2 | (simp_all; done) | grind) (.slice Ao59 t380.length co59)) (fun _ h_ => h_.1))) (Kd.qbk ho0) hb); have n3_ := qad.mk (Kd.qax (by (with_reducible repeat (first | apply Kd.qap | apply Kd.qao | apply Kd.qas)); exact (Kd.qbe (Kd.R_far (p := ⟨gb383, 0, none⟩) (Kd.qbp HO378.out BK383.out (by decide)) (fun _ hk => by first | exact hk.2 | (simp_all; done) | grind) (.slice Ao59 t380.length co59)) (fun _ h_ => h_.1))) hb); have n4_ := qad.mk (Kd.qax (by (with_reducible repeat (first | apply Kd.qap | apply Kd.qao | apply Kd.qas)); exact (Kd.qbe (Kd.R_far (p := ⟨gb383, 0, none⟩) (Kd.qbp HO382.out BK383.out (by decide)) (fun _ hk => by first | exact hk.2 | (simp_all; done) | grind) (.slice Ao59 t380.length co59)) (fun _ h_ => h_.1))) hb); have n5_ := qad.mk (Kd.qbi (Kd.qbl ho0 (Kd.R_lt (by (with_reducible repeat (first | apply Kd.qap | apply Kd.qao | apply Kd.qas)); exact (Kd.qbe (Kd.R_far (p := ⟨gb383, 0, none⟩) (Kd.qbp HO373.out BK383.out (by decide)) (fun _ hk => by first | exact hk.2 | (simp_all; done) | grind) (.slice Ao59 t380.length co59)) (fun _ h_ => h_.1))))) (qal (by repeat (first | (with_reducible first | exact HB.out | apply qac | apply qaa | apply qab | refine qae ?_ GE359.out | refine qae ?_ GE360.out | refine qae ?_ GE379.out | refine qae ?_ GE383.out) | exact HB.out)))); have n6_ := qad.mk (qam (g := gb359) (o := .cells #[.int .i64 a0_0, .int .i64 a0_1, .slice A0_2 l0_2.length c0_2] 26 (0, 0)) (by (with_reducible repeat (first | refine qai ?_ _ | refine qaj ?_ | refine qah ?_ _)); refine qbt ?_ NB359_383.out _; (with_reducible repeat (first | refine qai ?_ _ | refine qaj ?_ | refine qah ?_ _)); exact BK359.out) hb); have n7_ := qad.mk (qam (g := gb360) (o := .cells #[.slice A1_0 l1_0.length c1_0] 28 (0, 0)) (by (with_reducible repeat (first | refine qai ?_ _ | refine qaj ?_ | refine qah ?_ _)); refine qbt ?_ NB360_383.out _; (with_reducible repeat (first | refine qai ?_ _ | refine qaj ?_ | refine qah ?_ _)); exact BK360.out) hb); have n8_ := qad.mk (qam (g := gb379) (o := .cells #[.int .i64 t374, .int .i64 t375, .slice Ao55 t376.length co55] 34 (0, 0)) (by (with_reducible repeat (first | refine qai ?_ _ | refine qaj ?_ | refine qah ?_ _)); refine qbt ?_ NB379_383.out _; (with_reducible repeat (first | refine qai ?_ _ | refine qaj ?_ | refine qah ?_ _)); exact BK379.out) hb); have n9_ := qad.mk (qam (g := gb383) (o := .cells #[.slice Ao59 t380.length co59] 36 (0, 0)) (by (with_reducible repeat (first | refine qai ?_ _ | refine qaj ?_ | refine qah ?_ _)); refine qcc (cs := #[.slice none 0 0]) ?_ 0 _ rfl; (with_reducible repeat (first | refine qai ?_ _ | refine qaj ?_ | refine qah ?_ _)); exact BK383.out) hb); have n10_ := qad.mk (qak (by repeat (first | (with_reducible first | exact HB.out | apply qac | apply qaa | apply qab | refine qae ?_ GE359.out | refine qae ?_ GE360.out | refine qae ?_ GE379.out | refine qae ?_ GE383.out) | exact HB.out)) hb); clear HO367; clear HO370; clear HO373; clear HO378; clear HO382; clear BK359; clear BK360; clear BK379; clear BK383; clear HB; have HO367 := n0_; have HO370 := n1_; have HO373 := n2_; have HO378 := n3_; have HO382 := n4_; have HO386 := n5_; have BK359 := n6_; have BK360 := n7_; have BK379 := n8_; have BK383 := n9_; have HB := n10_; clear n0_ n1_ n2_ n3_ n4_ n5_ n6_ n7_ n8_ n9_ n10_; (try clear hb); (try clear hb2); (try clear hk); (try clear hi); (try clear ho0); obtain ⟨Ao66, co66, eo66⟩ := Kd.qbg HO386.out; subst eo66; obtain ⟨Ao67, co67, eo67⟩ := Kd.qbg HO373.out; subst eo67) | ((with_reducible refine qan (f := 33) rfl ?_); refine qay (some 38) rfl rfl Try.func33 (by kernel_rfl) rfl #[.slice Ao66 t384.length co66, .slice Ao67 t371.length co67] rfl (by (try simp only [List.map_toArray, List.map_cons, List.map_nil]); first | done | rfl | (simp only [List.length_drop, List.length_take]; rfl)) ?_; (with_reducible refine (laws_eqDependS.calls k _ _ t384 _ _ t371 true _ ?side1 ?side2 ?side3 ?side4 A25.out).mono ?_); (case side1 => repeat (first | exact (Kd.qaw HO386.out).2.2 | (with_reducible first | refine Kd.qav ?_ _ | refine Kd.qau ?_ _ | refine Kd.qba ?_))); (case side2 => exact (Kd.qaw HO386.out).2.1); (case side3 => repeat (first | exact (Kd.qaw HO373.out).2.2 | (with_reducible first | refine Kd.qav ?_ _ | refine Kd.qau ?_ _ | refine Kd.qba ?_))); (case side4 => exact (Kd.qaw HO373.out).2.1); rintro e w68 ⟨rfl, hb⟩; refine ⟨_, rfl, ?_⟩; have n0_ := qad.mk (Kd.qax (by (with_reducible repeat (first | apply Kd.qap | apply Kd.qao | apply Kd.qas)); exact HO367.out) hb); have n1_ := qad.mk (Kd.qax (by (with_reducible repeat (first | apply Kd.qap | apply Kd.qao | apply Kd.qas)); exact HO370.out) hb); have n2_ := qad.mk (Kd.qax (by (with_reducible repeat (first | apply Kd.qap | apply Kd.qao | apply Kd.qas)); exact HO373.out) hb); have n3_ := qad.mk (Kd.qax (by (with_reducible repeat (first | apply Kd.qap | apply Kd.qao | apply Kd.qas)); exact HO378.out) hb); have n4_ := qad.mk (Kd.qax (by (with_reducible repeat (first | apply Kd.qap | apply Kd.qao | apply Kd.qas)); exact HO382.out) hb); have n5_ := qad.mk (Kd.qax (by (with_reducible repeat (first | apply Kd.qap | apply Kd.qao | apply Kd.qas)); exact HO386.out) hb); have n6_ := qad.mk (qam (g := gb359) (o := .cells #[.int .i64 a0_0, .int .i64 a0_1, .slice A0_2 l0_2.length c0_2] 26 (0, 0)) (by (with_reducible repeat (first | refine qai ?_ _ | refine qaj ?_ | refine qah ?_ _)); exact BK359.out) hb); have n7_ := qad.mk (qam (g := gb360) (o := .cells #[.slice A1_0 l1_0.length c1_0] 28 (0, 0)) (by (with_reducible repeat (first | refine qai ?_ _ | refine qaj ?_ | refine qah ?_ _)); exact BK360.out) hb); have n8_ := qad.mk (qam (g := gb379) (o := .cells #[.int .i64 t374, .int .i64 t375, .slice Ao55 t376.length co55] 34 (0, 0)) (by (with_reducible repeat (first | refine qai ?_ _ | refine qaj ?_ | refine qah ?_ _)); exact BK379.out) hb); have n9_ := qad.mk (qam (g := gb383) (o := .cells #[.slice Ao59 t380.length co59] 36 (0, 0)) (by (with_reducible repeat (first | refine qai ?_ _ | refine qaj ?_ | refine qah ?_ _)); exact BK383.out) hb); have n10_ := qad.mk (qak (by repeat (first | (with_reducible first | exact HB.out | apply qac | apply qaa | apply qab | refine qae ?_ GE359.out | refine qae ?_ GE360.out | refine qae ?_ GE379.out | refine qae ?_ GE383.out) | exact HB.out)) hb); clear HO367; clear HO370; clear HO373; clear HO378; clear HO382; clear HO386; clear BK359; clear BK360; clear BK379; clear BK383; clear HB; have HO367 := n0_; have HO370 := n1_; have HO373 := n2_; have HO378 := n3_; have HO382 := n4_; have HO386 := n5_; have BK359 := n6_; have BK360 := n7_; have BK379 := n8_; have BK383 := n9_; have HB := n10_; clear n0_ n1_ n2_ n3_ n4_ n5_ n6_ n7_ n8_ n9_ n10_; (try clear hb); (try clear hb2); (try clear hk); (try clear hi)))
      have n0_ := qad.mk (Kd.qas HO367.out)
      have n1_ := qad.mk (Kd.qas HO370.out)
      have n2_ := qad.mk (Kd.qas HO373.out)
      have n3_ := qad.mk (Kd.qas HO378.out)
      have n4_ := qad.mk (Kd.qas HO382.out)
      have n5_ := qad.mk (Kd.qas HO386.out)
      have n6_ := qad.mk (qaj BK359.out)
      have n7_ := qad.mk (qaj BK360.out)
      have n8_ := qad.mk (qaj BK379.out)
      have n9_ := qad.mk (qaj BK383.out)
      have n10_ := qad.mk (qab HB.out)
      clear HO367
      clear HO370
      clear HO373
      clear HO378
      clear HO382
      clear HO386
      clear BK359
      clear BK360
      clear BK379
      clear BK383
      clear HB
      have HO367 := n0_
      have HO370 := n1_
      have HO373 := n2_
      have HO378 := n3_
      have HO382 := n4_
      have HO386 := n5_
      have BK359 := n6_
      have BK360 := n7_
      have BK379 := n8_
      have BK383 := n9_
      have HB := n10_
      clear n0_ n1_ n2_ n3_ n4_ n5_ n6_ n7_ n8_ n9_ n10_
      refine qcb (n := 5) (S := fun w' => w'.cell? ⟨gb379, 0, none⟩ = some (.int .i64 t374) ∧ w'.cell? ⟨gb379, 1, none⟩ = some (.int .i64 t375) ∧ w'.cell? ⟨gb379, 2, none⟩ = some (.slice Ao55 t376.length co55) ∧ w'.cell? ⟨gb359, 0, none⟩ = some (.int .i64 a0_0) ∧ w'.cell? ⟨gb359, 1, none⟩ = some (.int .i64 a0_1) ∧ w'.cell? ⟨gb359, 2, none⟩ = some (.slice A0_2 l0_2.length c0_2)) (ds := []) #[false, false, false, false, false] (by kernel_rfl) rfl rfl ⟨(qag BK379.out 0).trans rfl, (qag BK379.out 1).trans rfl, (qag BK379.out 2).trans rfl, (qag BK359.out 0).trans rfl, (qag BK359.out 1).trans rfl, (qag BK359.out 2).trans rfl⟩ (fun hHeld => ?_)
      generalize w68.drew = w69 at HO367 HO370 HO373 HO378 HO382 HO386 BK359 BK360 BK379 BK383 HB hHeld ⊢
      refine take_ (i := 0) (N := some 40) (v := ?_) (a' := ?_) #[true, false, false, false, false] rfl rfl (by kernel_rfl) (fun _ _ _ h => h) (Or.inl ⟨by rfl, ?_⟩) hHeld ?_ ?_
      rotate_left
      ·rintro w' ⟨s0, s1, s2, s3, s4, s5⟩
       go_simp
       with_reducible rfl
      rotate_left
      ·simp only [Act.put, List.setIfInBounds_toArray, List.set_cons_zero, List.set_cons_succ, i64_w, i32_w]
       rfl
      refine take_ (i := 1) (N := some 41) (v := ?_) (a' := ?_) #[true, true, false, false, false] rfl rfl (by kernel_rfl) (fun _ _ _ h => h) (Or.inl ⟨by rfl, ?_⟩) hHeld ?_ ?_
      rotate_left
      ·rintro w' ⟨s0, s1, s2, s3, s4, s5⟩
       go_simp
       with_reducible rfl
      rotate_left
      ·simp only [Act.put, List.setIfInBounds_toArray, List.set_cons_zero, List.set_cons_succ, i64_w, i32_w]
       rfl
      refine one_ (i := 2) (N := some 42) #[true, true, true, false, false] rfl rfl (by kernel_rfl) (by decide) (fun K hK => ?_)
      refine goes_ Try.func18 (by kernel_rfl) rfl #[.agg #[.int .i64 a0_0, .int .i64 a0_1, .slice A0_2 l0_2.length c0_2]] (by rfl) rfl rfl (by (try simp only [List.map_toArray, List.map_cons, List.map_nil]); first | done | rfl | (simp only [List.length_drop, List.length_take]; rfl)) ?_
      with_reducible refine (laws_toMesh.calls k a0_0 a0_1 _ _ l0_2 t388 t389 t390 _ ?side1 ?side2 A27.out).mono ?_
      (case side1 => repeat (first | exact (Kd.qaz HR0_2.out HB.out) | (with_reducible first | refine Kd.qav ?_ _ | refine Kd.qau ?_ _ | refine Kd.qba ?_)))
      (case side2 => exact HC0_2.out)
      rintro e w70 ⟨v391, rfl, ho0, hb⟩
      refine ⟨_, rfl, ?_⟩
      have n0_ := qad.mk (Kd.qbf (by (with_reducible repeat (first | apply Kd.qap | apply Kd.qao | apply Kd.qas)); exact HO367.out) (Kd.qbk ho0) hb)
      have n1_ := qad.mk (Kd.qbf (by (with_reducible repeat (first | apply Kd.qap | apply Kd.qao | apply Kd.qas)); exact HO370.out) (Kd.qbk ho0) hb)
      have n2_ := qad.mk (Kd.qax (by (with_reducible repeat (first | apply Kd.qap | apply Kd.qao | apply Kd.qas)); exact HO373.out) hb)
      have n3_ := qad.mk (Kd.qbf (by (with_reducible repeat (first | apply Kd.qap | apply Kd.qao | apply Kd.qas)); exact HO378.out) (Kd.qbk ho0) hb)
      have n4_ := qad.mk (Kd.qbf (by (with_reducible repeat (first | apply Kd.qap | apply Kd.qao | apply Kd.qas)); exact HO382.out) (Kd.qbk ho0) hb)
      have n5_ := qad.mk (Kd.qax (by (with_reducible repeat (first | apply Kd.qap | apply Kd.qao | apply Kd.qas)); exact HO386.out) hb)
      have n6_ := qad.mk (Kd.qbi (Kd.qbl (Kd.qbl (Kd.qbl (Kd.qbl ho0 (Kd.R_lt (by (with_reducible repeat (first | apply Kd.qap | apply Kd.qao | apply Kd.qas)); exact HO367.out))) (Kd.R_lt (by (with_reducible repeat (first | apply Kd.qap | apply Kd.qao | apply Kd.qas)); exact HO370.out))) (Kd.R_lt (by (with_reducible repeat (first | apply Kd.qap | apply Kd.qao | apply Kd.qas)); exact HO378.out))) (Kd.R_lt (by (with_reducible repeat (first | apply Kd.qap | apply Kd.qao | apply Kd.qas)); exact HO382.out))) (qal (by repeat (first | (with_reducible first | exact HB.out | apply qac | apply qaa | apply qab | refine qae ?_ GE359.out | refine qae ?_ GE360.out | refine qae ?_ GE379.out | refine qae ?_ GE383.out) | exact HB.out))))
      have n7_ := qad.mk (qam (g := gb359) (o := .cells #[.int .i64 a0_0, .int .i64 a0_1, .slice A0_2 l0_2.length c0_2] 26 (0, 0)) (by (with_reducible repeat (first | refine qai ?_ _ | refine qaj ?_ | refine qah ?_ _)); exact BK359.out) hb)
      have n8_ := qad.mk (qam (g := gb360) (o := .cells #[.slice A1_0 l1_0.length c1_0] 28 (0, 0)) (by (with_reducible repeat (first | refine qai ?_ _ | refine qaj ?_ | refine qah ?_ _)); exact BK360.out) hb)
      have n9_ := qad.mk (qam (g := gb379) (o := .cells #[.int .i64 t374, .int .i64 t375, .slice Ao55 t376.length co55] 34 (0, 0)) (by (with_reducible repeat (first | refine qai ?_ _ | refine qaj ?_ | refine qah ?_ _)); exact BK379.out) hb)
      have n10_ := qad.mk (qam (g := gb383) (o := .cells #[.slice Ao59 t380.length co59] 36 (0, 0)) (by (with_reducible repeat (first | refine qai ?_ _ | refine qaj ?_ | refine qah ?_ _)); exact BK383.out) hb)
      have n11_ := qad.mk (qak (by repeat (first | (with_reducible first | exact HB.out | apply qac | apply qaa | apply qab | refine qae ?_ GE359.out | refine qae ?_ GE360.out | refine qae ?_ GE379.out | refine qae ?_ GE383.out) | exact HB.out)) hb)
      clear HO367
      clear HO370
      clear HO373
      clear HO378
      clear HO382
      clear HO386
      clear BK359
      clear BK360
      clear BK379
      clear BK383
      clear HB
      have HO367 := n0_
      have HO370 := n1_
      have HO373 := n2_
      have HO378 := n3_
      have HO382 := n4_
      have HO386 := n5_
      have HO392 := n6_
      have BK359 := n7_
      have BK360 := n8_
      have BK379 := n9_
      have BK383 := n10_
      have HB := n11_
      clear n0_ n1_ n2_ n3_ n4_ n5_ n6_ n7_ n8_ n9_ n10_ n11_
      (try clear hb)
      (try clear hb2)
      (try clear hk)
      (try clear hi)
      (try clear ho0)
      obtain ⟨Ao71, co71, eo71⟩ := Kd.qbg HO392.out
      (first | subst eo71 | (injection eo71 with f1_ f2_ f3_; have f4_ := f1_.symm; have f5_ := f3_.symm; clear f1_ f2_ f3_; subst f4_; subst f5_))
      refine hK.out _ _ ⟨(qag BK379.out 0).trans rfl, (qag BK379.out 1).trans rfl, (qag BK379.out 2).trans rfl, (qag BK359.out 0).trans rfl, (qag BK359.out 1).trans rfl, (qag BK359.out 2).trans rfl⟩ (fun hHeld => ?_)
      clear hK K
      refine norm_ (a' := ?_) ?_ ?_
      rotate_left
      ·show Act.put _ (some 42) _ = _
       simp only [Act.put, List.setIfInBounds_toArray, List.set_cons_zero, List.set_cons_succ, i64_w, i32_w]
       rfl
      refine one_ (i := 3) (N := some 43) #[true, true, true, true, false] rfl rfl (by kernel_rfl) (by decide) (fun K hK => ?_)
      refine goes_ Try.func22 (by kernel_rfl) rfl #[.agg #[.int .i64 t374, .int .i64 t375, .slice Ao55 t376.length co55], .agg #[.int .i64 t388, .int .i64 t389, .slice Ao71 t390.length co71]] (by rfl) rfl rfl (by (try simp only [List.map_toArray, List.map_cons, List.map_nil]); first | done | rfl | (simp only [List.length_drop, List.length_take]; rfl)) ?_
      with_reducible refine (laws_eqMesh.calls k t374 t375 _ _ t376 t388 t389 _ _ t390 true _ ?side1 ?side2 ?side3 ?side4 A28.out).mono ?_
      (case side1 => repeat (first | exact (Kd.qaw HO378.out).2.2 | (with_reducible first | refine Kd.qav ?_ _ | refine Kd.qau ?_ _ | refine Kd.qba ?_)))
      (case side2 => exact (Kd.qaw HO378.out).2.1)
      (case side3 => repeat (first | exact (Kd.qaw HO392.out).2.2 | (with_reducible first | refine Kd.qav ?_ _ | refine Kd.qau ?_ _ | refine Kd.qba ?_)))
      (case side4 => exact (Kd.qaw HO392.out).2.1)
      rintro e w72 ⟨rfl, hb⟩
      refine ⟨_, rfl, ?_⟩
      have n0_ := qad.mk (Kd.qax (by (with_reducible repeat (first | apply Kd.qap | apply Kd.qao | apply Kd.qas)); exact HO367.out) hb)
      have n1_ := qad.mk (Kd.qax (by (with_reducible repeat (first | apply Kd.qap | apply Kd.qao | apply Kd.qas)); exact HO370.out) hb)
      have n2_ := qad.mk (Kd.qax (by (with_reducible repeat (first | apply Kd.qap | apply Kd.qao | apply Kd.qas)); exact HO373.out) hb)
      have n3_ := qad.mk (Kd.qax (by (with_reducible repeat (first | apply Kd.qap | apply Kd.qao | apply Kd.qas)); exact HO378.out) hb)
      have n4_ := qad.mk (Kd.qax (by (with_reducible repeat (first | apply Kd.qap | apply Kd.qao | apply Kd.qas)); exact HO382.out) hb)
      have n5_ := qad.mk (Kd.qax (by (with_reducible repeat (first | apply Kd.qap | apply Kd.qao | apply Kd.qas)); exact HO386.out) hb)
      have n6_ := qad.mk (Kd.qax (by (with_reducible repeat (first | apply Kd.qap | apply Kd.qao | apply Kd.qas)); exact HO392.out) hb)
      have n7_ := qad.mk (qam (g := gb359) (o := .cells #[.int .i64 a0_0, .int .i64 a0_1, .slice A0_2 l0_2.length c0_2] 26 (0, 0)) (by (with_reducible repeat (first | refine qai ?_ _ | refine qaj ?_ | refine qah ?_ _)); exact BK359.out) hb)
      have n8_ := qad.mk (qam (g := gb360) (o := .cells #[.slice A1_0 l1_0.length c1_0] 28 (0, 0)) (by (with_reducible repeat (first | refine qai ?_ _ | refine qaj ?_ | refine qah ?_ _)); exact BK360.out) hb)
      have n9_ := qad.mk (qam (g := gb379) (o := .cells #[.int .i64 t374, .int .i64 t375, .slice Ao55 t376.length co55] 34 (0, 0)) (by (with_reducible repeat (first | refine qai ?_ _ | refine qaj ?_ | refine qah ?_ _)); exact BK379.out) hb)
      have n10_ := qad.mk (qam (g := gb383) (o := .cells #[.slice Ao59 t380.length co59] 36 (0, 0)) (by (with_reducible repeat (first | refine qai ?_ _ | refine qaj ?_ | refine qah ?_ _)); exact BK383.out) hb)
      have n11_ := qad.mk (qak (by repeat (first | (with_reducible first | exact HB.out | apply qac | apply qaa | apply qab | refine qae ?_ GE359.out | refine qae ?_ GE360.out | refine qae ?_ GE379.out | refine qae ?_ GE383.out) | exact HB.out)) hb)
      clear HO367
      clear HO370
      clear HO373
      clear HO378
      clear HO382
      clear HO386
      clear HO392
      clear BK359
      clear BK360
      clear BK379
      clear BK383
      clear HB
      have HO367 := n0_
      have HO370 := n1_
      have HO373 := n2_
      have HO378 := n3_
      have HO382 := n4_
      have HO386 := n5_
      have HO392 := n6_
      have BK359 := n7_
      have BK360 := n8_
      have BK379 := n9_
      have BK383 := n10_
      have HB := n11_
      clear n0_ n1_ n2_ n3_ n4_ n5_ n6_ n7_ n8_ n9_ n10_ n11_
      (try clear hb)
      (try clear hb2)
      (try clear hk)
      (try clear hi)
      refine hK.out _ _ ⟨(qag BK379.out 0).trans rfl, (qag BK379.out 1).trans rfl, (qag BK379.out 2).trans rfl, (qag BK359.out 0).trans rfl, (qag BK359.out 1).trans rfl, (qag BK359.out 2).trans rfl⟩ (fun hHeld => ?_)
      clear hK K
      refine norm_ (a' := ?_) ?_ ?_
      rotate_left
      ·show Act.put _ (some 43) _ = _
       simp only [Act.put, List.setIfInBounds_toArray, List.set_cons_zero, List.set_cons_succ, i64_w, i32_w]
       rfl
      refine pure_ (i := 4) (N := some 44) (v := ?_) (a' := ?_) #[true, true, true, true, true] rfl rfl (by kernel_rfl) (fun _ _ _ h => h) (Or.inl ⟨by rfl, ?_⟩) ?_ ?_
      rotate_left
      ·intro w'
       go_simp
       with_reducible rfl
      rotate_left
      ·simp only [Act.put, List.setIfInBounds_toArray, List.set_cons_zero, List.set_cons_succ, i64_w, i32_w]
       rfl
      refine done_ (by kernel_rfl) ?_
      try go_wp2
      have n0_ := qad.mk (Kd.qas HO367.out)
      have n1_ := qad.mk (Kd.qas HO370.out)
      have n2_ := qad.mk (Kd.qas HO373.out)
      have n3_ := qad.mk (Kd.qas HO378.out)
      have n4_ := qad.mk (Kd.qas HO382.out)
      have n5_ := qad.mk (Kd.qas HO386.out)
      have n6_ := qad.mk (Kd.qas HO392.out)
      have n7_ := qad.mk (qaj BK359.out)
      have n8_ := qad.mk (qaj BK360.out)
      have n9_ := qad.mk (qaj BK379.out)
      have n10_ := qad.mk (qaj BK383.out)
      have n11_ := qad.mk (qab HB.out)
      clear HO367
      clear HO370
      clear HO373
      clear HO378
      clear HO382
      clear HO386
      clear HO392
      clear BK359
      clear BK360
      clear BK379
      clear BK383
      clear HB
      have HO367 := n0_
      have HO370 := n1_
      have HO373 := n2_
      have HO378 := n3_
      have HO382 := n4_
      have HO386 := n5_
      have HO392 := n6_
      have BK359 := n7_
      have BK360 := n8_
      have BK379 := n9_
      have BK383 := n10_
      have HB := n11_
      clear n0_ n1_ n2_ n3_ n4_ n5_ n6_ n7_ n8_ n9_ n10_ n11_
      refine qcb (n := 5) (S := fun w' => w'.cell? ⟨gb383, 0, none⟩ = some (.slice Ao59 t380.length co59) ∧ w'.cell? ⟨gb360, 0, none⟩ = some (.slice A1_0 l1_0.length c1_0)) (ds := []) #[false, false, false, false, false] (by kernel_rfl) rfl rfl ⟨(qag BK383.out 0).trans rfl, (qag BK360.out 0).trans rfl⟩ (fun hHeld => ?_)
      generalize w72.drew = w73 at HO367 HO370 HO373 HO378 HO382 HO386 HO392 BK359 BK360 BK379 BK383 HB hHeld ⊢
      refine take_ (i := 0) (N := some 45) (v := ?_) (a' := ?_) #[true, false, false, false, false] rfl rfl (by kernel_rfl) (fun _ _ _ h => h) (Or.inl ⟨by rfl, ?_⟩) hHeld ?_ ?_
      rotate_left
      ·rintro w' ⟨s0, s1⟩
       go_simp
       with_reducible rfl
      rotate_left
      ·simp only [Act.put, List.setIfInBounds_toArray, List.set_cons_zero, List.set_cons_succ, i64_w, i32_w]
       rfl
      refine take_ (i := 1) (N := some 46) (v := ?_) (a' := ?_) #[true, true, false, false, false] rfl rfl (by kernel_rfl) (fun _ _ _ h => h) (Or.inl ⟨by rfl, ?_⟩) hHeld ?_ ?_
      rotate_left
      ·rintro w' ⟨s0, s1⟩
       go_simp
       with_reducible rfl
      rotate_left
      ·simp only [Act.put, List.setIfInBounds_toArray, List.set_cons_zero, List.set_cons_succ, i64_w, i32_w]
       rfl
      refine one_ (i := 2) (N := some 47) #[true, true, true, false, false] rfl rfl (by kernel_rfl) (by decide) (fun K hK => ?_)
      refine goes_ Try.func19 (by kernel_rfl) rfl #[.agg #[.slice A1_0 l1_0.length c1_0]] (by rfl) rfl rfl (by (try simp only [List.map_toArray, List.map_cons, List.map_nil]); first | done | rfl | (simp only [List.length_drop, List.length_take]; rfl)) ?_
      with_reducible refine (laws_toTable.calls k _ _ l1_0 t394 _ ?side1 ?side2 A30.out).mono ?_
      (case side1 => repeat (first | exact (Kd.qaz HR1_0.out HB.out) | (with_reducible first | refine Kd.qav ?_ _ | refine Kd.qau ?_ _ | refine Kd.qba ?_)))
      (case side2 => exact HC1_0.out)
      rintro e w74 ⟨v395, rfl, ho0, hb⟩
      refine ⟨_, rfl, ?_⟩
      have n0_ := qad.mk (Kd.qbf (by (with_reducible repeat (first | apply Kd.qap | apply Kd.qao | apply Kd.qas)); exact HO367.out) (Kd.qbk ho0) hb)
      have n1_ := qad.mk (Kd.qbf (by (with_reducible repeat (first | apply Kd.qap | apply Kd.qao | apply Kd.qas)); exact HO370.out) (Kd.qbk ho0) hb)
      have n2_ := qad.mk (Kd.qax (by (with_reducible repeat (first | apply Kd.qap | apply Kd.qao | apply Kd.qas)); exact HO373.out) hb)
      have n3_ := qad.mk (Kd.qbf (by (with_reducible repeat (first | apply Kd.qap | apply Kd.qao | apply Kd.qas)); exact HO378.out) (Kd.qbk ho0) hb)
      have n4_ := qad.mk (Kd.qbf (by (with_reducible repeat (first | apply Kd.qap | apply Kd.qao | apply Kd.qas)); exact HO382.out) (Kd.qbk ho0) hb)
      have n5_ := qad.mk (Kd.qax (by (with_reducible repeat (first | apply Kd.qap | apply Kd.qao | apply Kd.qas)); exact HO386.out) hb)
      have n6_ := qad.mk (Kd.qbf (by (with_reducible repeat (first | apply Kd.qap | apply Kd.qao | apply Kd.qas)); exact HO392.out) (Kd.qbk ho0) hb)
      have n7_ := qad.mk (Kd.qbi (Kd.qbl (Kd.qbl (Kd.qbl (Kd.qbl (Kd.qbl ho0 (Kd.R_lt (by (with_reducible repeat (first | apply Kd.qap | apply Kd.qao | apply Kd.qas)); exact HO367.out))) (Kd.R_lt (by (with_reducible repeat (first | apply Kd.qap | apply Kd.qao | apply Kd.qas)); exact HO370.out))) (Kd.R_lt (by (with_reducible repeat (first | apply Kd.qap | apply Kd.qao | apply Kd.qas)); exact HO378.out))) (Kd.R_lt (by (with_reducible repeat (first | apply Kd.qap | apply Kd.qao | apply Kd.qas)); exact HO382.out))) (Kd.R_lt (by (with_reducible repeat (first | apply Kd.qap | apply Kd.qao | apply Kd.qas)); exact HO392.out))) (qal (by repeat (first | (with_reducible first | exact HB.out | apply qac | apply qaa | apply qab | refine qae ?_ GE359.out | refine qae ?_ GE360.out | refine qae ?_ GE379.out | refine qae ?_ GE383.out) | exact HB.out))))
      have n8_ := qad.mk (qam (g := gb359) (o := .cells #[.int .i64 a0_0, .int .i64 a0_1, .slice A0_2 l0_2.length c0_2] 26 (0, 0)) (by (with_reducible repeat (first | refine qai ?_ _ | refine qaj ?_ | refine qah ?_ _)); exact BK359.out) hb)
      have n9_ := qad.mk (qam (g := gb360) (o := .cells #[.slice A1_0 l1_0.length c1_0] 28 (0, 0)) (by (with_reducible repeat (first | refine qai ?_ _ | refine qaj ?_ | refine qah ?_ _)); exact BK360.out) hb)
      have n10_ := qad.mk (qam (g := gb379) (o := .cells #[.int .i64 t374, .int .i64 t375, .slice Ao55 t376.length co55] 34 (0, 0)) (by (with_reducible repeat (first | refine qai ?_ _ | refine qaj ?_ | refine qah ?_ _)); exact BK379.out) hb)
      have n11_ := qad.mk (qam (g := gb383) (o := .cells #[.slice Ao59 t380.length co59] 36 (0, 0)) (by (with_reducible repeat (first | refine qai ?_ _ | refine qaj ?_ | refine qah ?_ _)); exact BK383.out) hb)
      have n12_ := qad.mk (qak (by repeat (first | (with_reducible first | exact HB.out | apply qac | apply qaa | apply qab | refine qae ?_ GE359.out | refine qae ?_ GE360.out | refine qae ?_ GE379.out | refine qae ?_ GE383.out) | exact HB.out)) hb)
      clear HO367
      clear HO370
      clear HO373
      clear HO378
      clear HO382
      clear HO386
      clear HO392
      clear BK359
      clear BK360
      clear BK379
      clear BK383
      clear HB
      have HO367 := n0_
      have HO370 := n1_
      have HO373 := n2_
      have HO378 := n3_
      have HO382 := n4_
      have HO386 := n5_
      have HO392 := n6_
      have HO396 := n7_
      have BK359 := n8_
      have BK360 := n9_
      have BK379 := n10_
      have BK383 := n11_
      have HB := n12_
      clear n0_ n1_ n2_ n3_ n4_ n5_ n6_ n7_ n8_ n9_ n10_ n11_ n12_
      (try clear hb)
      (try clear hb2)
      (try clear hk)
      (try clear hi)
      (try clear ho0)
      obtain ⟨Ao75, co75, eo75⟩ := Kd.qbg HO396.out
      (first | subst eo75 | (injection eo75 with f1_ f2_ f3_; have f4_ := f1_.symm; have f5_ := f3_.symm; clear f1_ f2_ f3_; subst f4_; subst f5_))
      refine hK.out _ _ ⟨(qag BK383.out 0).trans rfl, (qag BK360.out 0).trans rfl⟩ (fun hHeld => ?_)
      clear hK K
      refine norm_ (a' := ?_) ?_ ?_
      rotate_left
      ·show Act.put _ (some 47) _ = _
       simp only [Act.put, List.setIfInBounds_toArray, List.set_cons_zero, List.set_cons_succ, i64_w, i32_w]
       rfl
      refine one_ (i := 3) (N := some 48) #[true, true, true, true, false] rfl rfl (by kernel_rfl) (by decide) (fun K hK => ?_)
      refine goes_ Try.func23 (by kernel_rfl) rfl #[.agg #[.slice Ao59 t380.length co59], .agg #[.slice Ao75 t394.length co75]] (by rfl) rfl rfl (by (try simp only [List.map_toArray, List.map_cons, List.map_nil]); first | done | rfl | (simp only [List.length_drop, List.length_take]; rfl)) ?_
      with_reducible refine (laws_eqTable.calls k _ _ t380 _ _ t394 true _ ?side1 ?side2 ?side3 ?side4 A31.out).mono ?_
      (case side1 => repeat (first | exact (Kd.qaw HO382.out).2.2 | (with_reducible first | refine Kd.qav ?_ _ | refine Kd.qau ?_ _ | refine Kd.qba ?_)))
      (case side2 => exact (Kd.qaw HO382.out).2.1)
      (case side3 => repeat (first | exact (Kd.qaw HO396.out).2.2 | (with_reducible first | refine Kd.qav ?_ _ | refine Kd.qau ?_ _ | refine Kd.qba ?_)))
      (case side4 => exact (Kd.qaw HO396.out).2.1)
      rintro e w76 ⟨rfl, hb⟩
      refine ⟨_, rfl, ?_⟩
      have n0_ := qad.mk (Kd.qax (by (with_reducible repeat (first | apply Kd.qap | apply Kd.qao | apply Kd.qas)); exact HO367.out) hb)
      have n1_ := qad.mk (Kd.qax (by (with_reducible repeat (first | apply Kd.qap | apply Kd.qao | apply Kd.qas)); exact HO370.out) hb)
      have n2_ := qad.mk (Kd.qax (by (with_reducible repeat (first | apply Kd.qap | apply Kd.qao | apply Kd.qas)); exact HO373.out) hb)
      have n3_ := qad.mk (Kd.qax (by (with_reducible repeat (first | apply Kd.qap | apply Kd.qao | apply Kd.qas)); exact HO378.out) hb)
      have n4_ := qad.mk (Kd.qax (by (with_reducible repeat (first | apply Kd.qap | apply Kd.qao | apply Kd.qas)); exact HO382.out) hb)
      have n5_ := qad.mk (Kd.qax (by (with_reducible repeat (first | apply Kd.qap | apply Kd.qao | apply Kd.qas)); exact HO386.out) hb)
      have n6_ := qad.mk (Kd.qax (by (with_reducible repeat (first | apply Kd.qap | apply Kd.qao | apply Kd.qas)); exact HO392.out) hb)
      have n7_ := qad.mk (Kd.qax (by (with_reducible repeat (first | apply Kd.qap | apply Kd.qao | apply Kd.qas)); exact HO396.out) hb)
      have n8_ := qad.mk (qam (g := gb359) (o := .cells #[.int .i64 a0_0, .int .i64 a0_1, .slice A0_2 l0_2.length c0_2] 26 (0, 0)) (by (with_reducible repeat (first | refine qai ?_ _ | refine qaj ?_ | refine qah ?_ _)); exact BK359.out) hb)
      have n9_ := qad.mk (qam (g := gb360) (o := .cells #[.slice A1_0 l1_0.length c1_0] 28 (0, 0)) (by (with_reducible repeat (first | refine qai ?_ _ | refine qaj ?_ | refine qah ?_ _)); exact BK360.out) hb)
      have n10_ := qad.mk (qam (g := gb379) (o := .cells #[.int .i64 t374, .int .i64 t375, .slice Ao55 t376.length co55] 34 (0, 0)) (by (with_reducible repeat (first | refine qai ?_ _ | refine qaj ?_ | refine qah ?_ _)); exact BK379.out) hb)
      have n11_ := qad.mk (qam (g := gb383) (o := .cells #[.slice Ao59 t380.length co59] 36 (0, 0)) (by (with_reducible repeat (first | refine qai ?_ _ | refine qaj ?_ | refine qah ?_ _)); exact BK383.out) hb)
      have n12_ := qad.mk (qak (by repeat (first | (with_reducible first | exact HB.out | apply qac | apply qaa | apply qab | refine qae ?_ GE359.out | refine qae ?_ GE360.out | refine qae ?_ GE379.out | refine qae ?_ GE383.out) | exact HB.out)) hb)
      clear HO367
      clear HO370
      clear HO373
      clear HO378
      clear HO382
      clear HO386
      clear HO392
      clear HO396
      clear BK359
      clear BK360
      clear BK379
      clear BK383
      clear HB
      have HO367 := n0_
      have HO370 := n1_
      have HO373 := n2_
      have HO378 := n3_
      have HO382 := n4_
      have HO386 := n5_
      have HO392 := n6_
      have HO396 := n7_
      have BK359 := n8_
      have BK360 := n9_
      have BK379 := n10_
      have BK383 := n11_
      have HB := n12_
      clear n0_ n1_ n2_ n3_ n4_ n5_ n6_ n7_ n8_ n9_ n10_ n11_ n12_
      (try clear hb)
      (try clear hb2)
      (try clear hk)
      (try clear hi)
      refine hK.out _ _ ⟨(qag BK383.out 0).trans rfl, (qag BK360.out 0).trans rfl⟩ (fun hHeld => ?_)
      clear hK K
      refine norm_ (a' := ?_) ?_ ?_
      rotate_left
      ·show Act.put _ (some 48) _ = _
       simp only [Act.put, List.setIfInBounds_toArray, List.set_cons_zero, List.set_cons_succ, i64_w, i32_w]
       rfl
      refine pure_ (i := 4) (N := some 49) (v := ?_) (a' := ?_) #[true, true, true, true, true] rfl rfl (by kernel_rfl) (fun _ _ _ h => h) (Or.inl ⟨by rfl, ?_⟩) ?_ ?_
      rotate_left
      ·intro w'
       go_simp
       with_reducible rfl
      rotate_left
      ·simp only [Act.put, List.setIfInBounds_toArray, List.set_cons_zero, List.set_cons_succ, i64_w, i32_w]
       rfl
      refine done_ (by kernel_rfl) ?_
      have hcz77_0 : w76.cell? ⟨gb379, 0, none⟩ = some (.int .i64 t374) := (qag BK379.out 0).trans rfl
      have hcz77_1 : w76.cell? ⟨gb379, 1, none⟩ = some (.int .i64 t375) := (qag BK379.out 1).trans rfl
      have hcz77_2 : w76.cell? ⟨gb379, 2, none⟩ = some (.slice Ao55 t376.length co55) := (qag BK379.out 2).trans rfl
      have hfz77_0 := qaf BK379.out 0
      have hfz77_1 := qaf BK379.out 1
      have hfz77_2 := qaf BK379.out 2
      go_upto_region 21 with (first | ((with_reducible refine qan (f := 27) rfl ?_); refine qay (some 52) rfl rfl Try.func27 (by kernel_rfl) rfl #[.agg #[.int .i64 t374, .int .i64 t375, .slice Ao55 t376.length co55], .int .i64 1] rfl (by (try simp only [List.map_toArray, List.map_cons, List.map_nil]); first | done | rfl | (simp only [List.length_drop, List.length_take]; rfl)) ?_; (with_reducible refine (laws_markMesh.calls k t374 t375 (fun k_ => some k_ = (.slice Ao55 t376.length co55 : Value).ownBlock) (.slice Ao55 t376.length co55) t376 1 t398 t399 w _ ?side1 ?side2 A33.out).mono ?_); (case side1 => repeat (first | (with_reducible first | exact HB.out | apply qac | apply qaa | apply qab | refine qae ?_ GE359.out | refine qae ?_ GE360.out | refine qae ?_ GE379.out | refine qae ?_ GE383.out) | exact HB.out)); (case side2 => exact Kd.qcp rfl HO378.out); rintro e w78 ⟨rfl, hy0, hb, hkp⟩; refine ⟨_, rfl, ?_⟩; have n0_ := qad.mk (qbn (by (with_reducible repeat (first | refine qai ?_ _ | refine qaj ?_ | refine qah ?_ _)); exact BK359.out) hkp (fun hs_ => (fun e_ => (Kd.R_ne HO378.out BK359.out (by decide)) e_) hs_)); have n1_ := qad.mk (qbn (by (with_reducible repeat (first | refine qai ?_ _ | refine qaj ?_ | refine qah ?_ _)); exact BK360.out) hkp (fun hs_ => (fun e_ => (Kd.R_ne HO378.out BK360.out (by decide)) e_) hs_)); have n2_ := qad.mk (Kd.qbe (ok' := fun k_ => some k_ ≠ (.slice Ao47 t368.length co47 : Value).ownBlock ∧ some k_ ≠ (.slice Ao55 t376.length co55 : Value).ownBlock ∧ some k_ ≠ (.slice Ao59 t380.length co59 : Value).ownBlock ∧ some k_ ≠ (.slice Ao71 t390.length co71 : Value).ownBlock ∧ some k_ ≠ (.slice Ao75 t394.length co75 : Value).ownBlock) (Kd.qbs (HO367.out) hkp (fun k_ hk_ hs_ => by first | exact (hk_.1.1.1.2) hs_ | (simp_all; done) | grind)) (fun k_ hk_ => by first | exact ⟨hk_.1.1.1.1.1.2, hk_.1.1.1.1.2, hk_.1.1.1.2, hk_.1.1.2, hk_.1.2⟩ | (simp_all; done) | grind)); have n3_ := qad.mk (Kd.qbe (ok' := fun k_ => some k_ ≠ (.slice Ao46 t365.length co46 : Value).ownBlock ∧ some k_ ≠ (.slice Ao55 t376.length co55 : Value).ownBlock ∧ some k_ ≠ (.slice Ao59 t380.length co59 : Value).ownBlock ∧ some k_ ≠ (.slice Ao71 t390.length co71 : Value).ownBlock ∧ some k_ ≠ (.slice Ao75 t394.length co75 : Value).ownBlock) (Kd.qbs (HO370.out) hkp (fun k_ hk_ hs_ => by first | exact (hk_.1.1.1.2) hs_ | (simp_all; done) | grind)) (fun k_ hk_ => by first | exact ⟨hk_.1.1.1.1.1.2, hk_.1.1.1.1.2, hk_.1.1.1.2, hk_.1.1.2, hk_.1.2⟩ | (simp_all; done) | grind)); have n4_ := qad.mk (Kd.qbe (ok' := fun k_ => some k_ ≠ (.slice Ao66 t384.length co66 : Value).ownBlock) (Kd.qbs ((Kd.qbu HO373.out (Kd.qcd HO378.out) (by decide))) hkp (fun k_ hk_ hs_ => by first | exact (hk_.2) hs_ | (simp_all; done) | grind)) (fun k_ hk_ => by first | exact hk_.1.1.2 | (simp_all; done) | grind)); have n5_ := qad.mk (Kd.qcs rfl hy0 (fun k_ e_ => HO378.out.1 k_ e_)); have n6_ := qad.mk (qbn (by (with_reducible repeat (first | refine qai ?_ _ | refine qaj ?_ | refine qah ?_ _)); exact BK379.out) hkp (fun hs_ => (fun e_ => (Kd.R_ne HO378.out BK379.out (by decide)) e_) hs_)); have n7_ := qad.mk (Kd.qbe (ok' := fun k_ => some k_ ≠ (.slice Ao46 t365.length co46 : Value).ownBlock ∧ some k_ ≠ (.slice Ao47 t368.length co47 : Value).ownBlock ∧ some k_ ≠ (.slice Ao55 t376.length co55 : Value).ownBlock ∧ some k_ ≠ (.slice Ao71 t390.length co71 : Value).ownBlock ∧ some k_ ≠ (.slice Ao75 t394.length co75 : Value).ownBlock) (Kd.qbs (HO382.out) hkp (fun k_ hk_ hs_ => by first | exact (hk_.1.1.2) hs_ | (simp_all; done) | grind)) (fun k_ hk_ => by first | exact ⟨hk_.1.1.1.1.1.2, hk_.1.1.1.1.2, hk_.1.1.1.2, hk_.1.1.2, hk_.1.2⟩ | (simp_all; done) | grind)); have n8_ := qad.mk (qbn (by (with_reducible repeat (first | refine qai ?_ _ | refine qaj ?_ | refine qah ?_ _)); exact BK383.out) hkp (fun hs_ => (fun e_ => (Kd.R_ne HO378.out BK383.out (by decide)) e_) hs_)); have n9_ := qad.mk (Kd.qbe (ok' := fun k_ => some k_ ≠ (.slice Ao67 t371.length co67 : Value).ownBlock) (Kd.qbs ((Kd.qbu HO386.out (Kd.qcd HO378.out) (by decide))) hkp (fun k_ hk_ hs_ => by first | exact (hk_.2) hs_ | (simp_all; done) | grind)) (fun k_ hk_ => by first | exact hk_.1.1.2 | (simp_all; done) | grind)); have n10_ := qad.mk (Kd.qbe (ok' := fun k_ => some k_ ≠ (.slice Ao46 t365.length co46 : Value).ownBlock ∧ some k_ ≠ (.slice Ao47 t368.length co47 : Value).ownBlock ∧ some k_ ≠ (.slice Ao55 t376.length co55 : Value).ownBlock ∧ some k_ ≠ (.slice Ao59 t380.length co59 : Value).ownBlock ∧ some k_ ≠ (.slice Ao75 t394.length co75 : Value).ownBlock) (Kd.qbs (HO392.out) hkp (fun k_ hk_ hs_ => by first | exact (hk_.1.1.2) hs_ | (simp_all; done) | grind)) (fun k_ hk_ => by first | exact ⟨hk_.1.1.1.1.1.2, hk_.1.1.1.1.2, hk_.1.1.1.2, hk_.1.1.2, hk_.1.2⟩ | (simp_all; done) | grind)); have n11_ := qad.mk (Kd.qbe (ok' := fun k_ => some k_ ≠ (.slice Ao46 t365.length co46 : Value).ownBlock ∧ some k_ ≠ (.slice Ao47 t368.length co47 : Value).ownBlock ∧ some k_ ≠ (.slice Ao55 t376.length co55 : Value).ownBlock ∧ some k_ ≠ (.slice Ao59 t380.length co59 : Value).ownBlock ∧ some k_ ≠ (.slice Ao71 t390.length co71 : Value).ownBlock) (Kd.qbs (HO396.out) hkp (fun k_ hk_ hs_ => by first | exact (hk_.1.1.2) hs_ | (simp_all; done) | grind)) (fun k_ hk_ => by first | exact ⟨hk_.1.1.1.1.1.2, hk_.1.1.1.1.2, hk_.1.1.1.2, hk_.1.1.2, hk_.1.2⟩ | (simp_all; done) | grind)); have n12_ := qad.mk (hb); clear BK359; clear BK360; clear HO367; clear HO370; clear HO373; clear HO378; clear BK379; clear HO382; clear BK383; clear HO386; clear HO392; clear HO396; clear HB; have BK359 := n0_; have BK360 := n1_; have HO367 := n2_; have HO370 := n3_; have HO373 := n4_; have HO378 := n5_; have BK379 := n6_; have HO382 := n7_; have BK383 := n8_; have HO386 := n9_; have HO392 := n10_; have HO396 := n11_; have HB := n12_; clear n0_ n1_ n2_ n3_ n4_ n5_ n6_ n7_ n8_ n9_ n10_ n11_ n12_; (try clear hb); (try clear hkp); (try clear hy0); have hcz79_0 : w78.cell? ⟨gb383, 0, none⟩ = some (.slice Ao59 t380.length co59) := (qag BK383.out 0).trans rfl; have hfz79_0 := qaf BK383.out 0) | ((with_reducible refine qan (f := 28) rfl ?_); refine qay (some 55) rfl rfl Try.func28 (by kernel_rfl) rfl #[.agg #[.slice Ao59 t380.length co59], .int .i64 t398] rfl (by (try simp only [List.map_toArray, List.map_cons, List.map_nil]); first | done | rfl | (simp only [List.length_drop, List.length_take]; rfl)) ?_; (with_reducible refine (laws_markTable.calls k (fun k_ => some k_ = (.slice Ao59 t380.length co59 : Value).ownBlock) (.slice Ao59 t380.length co59) t380 t398 t400 t401 w _ ?side1 ?side2 A34.out).mono ?_); (case side1 => repeat (first | (with_reducible first | exact HB.out | apply qac | apply qaa | apply qab | refine qae ?_ GE359.out | refine qae ?_ GE360.out | refine qae ?_ GE379.out | refine qae ?_ GE383.out) | exact HB.out)); (case side2 => exact Kd.qcp rfl HO382.out); rintro e w80 ⟨rfl, hy0, hb, hkp⟩; refine ⟨_, rfl, ?_⟩; have n0_ := qad.mk (qbn (by (with_reducible repeat (first | refine qai ?_ _ | refine qaj ?_ | refine qah ?_ _)); exact BK359.out) hkp (fun hs_ => (fun e_ => (Kd.R_ne HO382.out BK359.out (by decide)) e_) hs_)); have n1_ := qad.mk (qbn (by (with_reducible repeat (first | refine qai ?_ _ | refine qaj ?_ | refine qah ?_ _)); exact BK360.out) hkp (fun hs_ => (fun e_ => (Kd.R_ne HO382.out BK360.out (by decide)) e_) hs_)); have n2_ := qad.mk (Kd.qbe (ok' := fun k_ => some k_ ≠ (.slice Ao47 t368.length co47 : Value).ownBlock ∧ some k_ ≠ (.slice Ao55 t376.length co55 : Value).ownBlock ∧ some k_ ≠ (.slice Ao59 t380.length co59 : Value).ownBlock ∧ some k_ ≠ (.slice Ao71 t390.length co71 : Value).ownBlock ∧ some k_ ≠ (.slice Ao75 t394.length co75 : Value).ownBlock) (Kd.qbs (HO367.out) hkp (fun k_ hk_ hs_ => by first | exact (hk_.2.2.1) hs_ | (simp_all; done) | grind)) (fun k_ hk_ => by first | exact ⟨hk_.1.1, hk_.1.2.1, hk_.1.2.2.1, hk_.1.2.2.2.1, hk_.1.2.2.2.2⟩ | (simp_all; done) | grind)); have n3_ := qad.mk (Kd.qbe (ok' := fun k_ => some k_ ≠ (.slice Ao46 t365.length co46 : Value).ownBlock ∧ some k_ ≠ (.slice Ao55 t376.length co55 : Value).ownBlock ∧ some k_ ≠ (.slice Ao59 t380.length co59 : Value).ownBlock ∧ some k_ ≠ (.slice Ao71 t390.length co71 : Value).ownBlock ∧ some k_ ≠ (.slice Ao75 t394.length co75 : Value).ownBlock) (Kd.qbs (HO370.out) hkp (fun k_ hk_ hs_ => by first | exact (hk_.2.2.1) hs_ | (simp_all; done) | grind)) (fun k_ hk_ => by first | exact ⟨hk_.1.1, hk_.1.2.1, hk_.1.2.2.1, hk_.1.2.2.2.1, hk_.1.2.2.2.2⟩ | (simp_all; done) | grind)); have n4_ := qad.mk (Kd.qbe (ok' := fun k_ => some k_ ≠ (.slice Ao66 t384.length co66 : Value).ownBlock) (Kd.qbs ((Kd.qbu HO373.out (Kd.qcd HO382.out) (by decide))) hkp (fun k_ hk_ hs_ => by first | exact (hk_.2) hs_ | (simp_all; done) | grind)) (fun k_ hk_ => by first | exact hk_.1.1 | (simp_all; done) | grind)); have n5_ := qad.mk (Kd.qbe (ok' := fun k_ => some k_ ≠ (.slice Ao46 t365.length co46 : Value).ownBlock ∧ some k_ ≠ (.slice Ao47 t368.length co47 : Value).ownBlock ∧ some k_ ≠ (.slice Ao59 t380.length co59 : Value).ownBlock ∧ some k_ ≠ (.slice Ao71 t390.length co71 : Value).ownBlock ∧ some k_ ≠ (.slice Ao75 t394.length co75 : Value).ownBlock) (Kd.qbs (HO378.out) hkp (fun k_ hk_ hs_ => by first | exact (hk_.1.1.2) hs_ | (simp_all; done) | grind)) (fun k_ hk_ => by first | exact ⟨hk_.1.1.1.1.1.2, hk_.1.1.1.1.2, hk_.1.1.1.2, hk_.1.1.2, hk_.1.2⟩ | (simp_all; done) | grind)); have n6_ := qad.mk (qbn (by (with_reducible repeat (first | refine qai ?_ _ | refine qaj ?_ | refine qah ?_ _)); exact BK379.out) hkp (fun hs_ => (fun e_ => (Kd.R_ne HO382.out BK379.out (by decide)) e_) hs_)); have n7_ := qad.mk (Kd.qcs rfl hy0 (fun k_ e_ => HO382.out.1 k_ e_)); have n8_ := qad.mk (qbn (by (with_reducible repeat (first | refine qai ?_ _ | refine qaj ?_ | refine qah ?_ _)); exact BK383.out) hkp (fun hs_ => (fun e_ => (Kd.R_ne HO382.out BK383.out (by decide)) e_) hs_)); have n9_ := qad.mk (Kd.qbe (ok' := fun k_ => some k_ ≠ (.slice Ao67 t371.length co67 : Value).ownBlock) (Kd.qbs ((Kd.qbu HO386.out (Kd.qcd HO382.out) (by decide))) hkp (fun k_ hk_ hs_ => by first | exact (hk_.2) hs_ | (simp_all; done) | grind)) (fun k_ hk_ => by first | exact hk_.1.1 | (simp_all; done) | grind)); have n10_ := qad.mk (Kd.qbe (ok' := fun k_ => some k_ ≠ (.slice Ao46 t365.length co46 : Value).ownBlock ∧ some k_ ≠ (.slice Ao47 t368.length co47 : Value).ownBlock ∧ some k_ ≠ (.slice Ao55 t376.length co55 : Value).ownBlock ∧ some k_ ≠ (.slice Ao59 t380.length co59 : Value).ownBlock ∧ some k_ ≠ (.slice Ao75 t394.length co75 : Value).ownBlock) (Kd.qbs (HO392.out) hkp (fun k_ hk_ hs_ => by first | exact (hk_.2.2.2.1) hs_ | (simp_all; done) | grind)) (fun k_ hk_ => by first | exact ⟨hk_.1.1, hk_.1.2.1, hk_.1.2.2.1, hk_.1.2.2.2.1, hk_.1.2.2.2.2⟩ | (simp_all; done) | grind)); have n11_ := qad.mk (Kd.qbe (ok' := fun k_ => some k_ ≠ (.slice Ao46 t365.length co46 : Value).ownBlock ∧ some k_ ≠ (.slice Ao47 t368.length co47 : Value).ownBlock ∧ some k_ ≠ (.slice Ao55 t376.length co55 : Value).ownBlock ∧ some k_ ≠ (.slice Ao59 t380.length co59 : Value).ownBlock ∧ some k_ ≠ (.slice Ao71 t390.length co71 : Value).ownBlock) (Kd.qbs (HO396.out) hkp (fun k_ hk_ hs_ => by first | exact (hk_.2.2.2.1) hs_ | (simp_all; done) | grind)) (fun k_ hk_ => by first | exact ⟨hk_.1.1, hk_.1.2.1, hk_.1.2.2.1, hk_.1.2.2.2.1, hk_.1.2.2.2.2⟩ | (simp_all; done) | grind)); have n12_ := qad.mk (hb); clear BK359; clear BK360; clear HO367; clear HO370; clear HO373; clear HO378; clear BK379; clear HO382; clear BK383; clear HO386; clear HO392; clear HO396; clear HB; have BK359 := n0_; have BK360 := n1_; have HO367 := n2_; have HO370 := n3_; have HO373 := n4_; have HO378 := n5_; have BK379 := n6_; have HO382 := n7_; have BK383 := n8_; have HO386 := n9_; have HO392 := n10_; have HO396 := n11_; have HB := n12_; clear n0_ n1_ n2_ n3_ n4_ n5_ n6_ n7_ n8_ n9_ n10_ n11_ n12_; (try clear hb); (try clear hkp); (try clear hy0)))
      (try simp only [Act.put, List.setIfInBounds_toArray, List.set_cons_zero, List.set_cons_succ])
      go_cut [63] (fun v63 wc => ∃ (kq : Nat) (x63_34 : Bool), v63 = .bool x63_34 ∧ qad (laws_FnExactDependsOf.j0 kq t371 t384 x63_34 a0_0 a0_1 l0_2 l1_0 = some r) ∧ qad (kq ≤ k) ∧ qad (Kd.R k83 83 wc w.heap.size (fun k_ => some k_ ≠ ((.slice Ao66 t384.length co66) : Value).ownBlock) (.slice Ao67 t371.length co67) t371) ∧ qad (Kd.R k83 83 wc w.heap.size (fun k_ => some k_ ≠ ((.slice Ao67 t371.length co67) : Value).ownBlock) (.slice Ao66 t384.length co66) t384) ∧ qad (Kd.R (Kd.int .i64) 3 wc w.heap.size (fun k_ => some k_ ≠ ((.slice Ao59 t380.length co59) : Value).ownBlock) (.slice Ao55 t376.length co55) t399) ∧ qad (Kd.R (Kd.int .i64) 3 wc w.heap.size (fun k_ => some k_ ≠ ((.slice Ao55 t376.length co55) : Value).ownBlock) (.slice Ao59 t380.length co59) t401) ∧ qad (wc.heap[gb359]? = some (.cells #[.int .i64 a0_0, .int .i64 a0_1, (.slice A0_2 l0_2.length c0_2)] 26 (0, 0))) ∧ qad (wc.heap[gb360]? = some (.cells #[(.slice A1_0 l1_0.length c1_0)] 28 (0, 0))) ∧ qad (wc.heap[gb379]? = some (.cells #[.int .i64 t374, .int .i64 t375, (.slice Ao55 t376.length co55)] 34 (0, 0))) ∧ qad (wc.heap[gb383]? = some (.cells #[(.slice Ao59 t380.length co59)] 36 (0, 0))) ∧ qad (Below w.heap.size w wc))
      case first =>
       have H := HC35.out
       clear HC35
       by_cases c81 : t400 < 0
       ·rw [if_pos c81] at H
        have c81b0 : decide (t400 < 0) = true := decide_eq_true c81
        clear c81
        (first | rw [c81b0] | (simp only [i64_w, i32_w]; rw [c81b0]) | skip)
        have H' := qad.mk H
        clear H
        go_wp2
        go_meet
        case rel => exact ⟨_, (true), (by first | rfl | (simp; done) | (simp [*]; done)), H', ⟨by first | omega | exact Nat.le_refl _⟩, ⟨by (with_reducible repeat (first | apply Kd.qap | apply Kd.qao | apply Kd.qas)); exact HO373.out⟩, ⟨by (with_reducible repeat (first | apply Kd.qap | apply Kd.qao | apply Kd.qas)); exact HO386.out⟩, ⟨by (with_reducible repeat (first | apply Kd.qap | apply Kd.qao | apply Kd.qas)); exact Kd.qbe HO378.out (fun _ hk => by first | exact hk.2.2.1 | (simp_all; done) | grind)⟩, ⟨by (with_reducible repeat (first | apply Kd.qap | apply Kd.qao | apply Kd.qas)); exact Kd.qbe HO382.out (fun _ hk => by first | exact hk.2.2.1 | (simp_all; done) | grind)⟩, ⟨by (with_reducible repeat (first | refine qai ?_ _ | refine qaj ?_ | refine qah ?_ _)); exact BK359.out⟩, ⟨by (with_reducible repeat (first | refine qai ?_ _ | refine qaj ?_ | refine qah ?_ _)); exact BK360.out⟩, ⟨by (with_reducible repeat (first | refine qai ?_ _ | refine qaj ?_ | refine qah ?_ _)); exact BK379.out⟩, ⟨by (with_reducible repeat (first | refine qai ?_ _ | refine qaj ?_ | refine qah ?_ _)); exact BK383.out⟩, ⟨by repeat (first | (with_reducible first | exact HB.out | apply qac | apply qaa | apply qab | refine qae ?_ GE359.out | refine qae ?_ GE360.out | refine qae ?_ GE379.out | refine qae ?_ GE383.out) | exact HB.out)⟩⟩
       ·rw [if_neg c81] at H
        have c81b0 : decide (t400 < 0) = false := decide_eq_false c81
        clear c81
        (first | rw [c81b0] | (simp only [i64_w, i32_w]; rw [c81b0]) | skip)
        replace H := Option.bind_eq_some_iff.mp H
        obtain ⟨t402, A820, H⟩ := H
        try dsimp only at H
        have A82 := qad.mk A820
        clear A820
        have H' := qad.mk H
        clear H
        go_wp2_with (first | (go_at_call 33; (with_reducible refine (laws_eqDependS.calls k _ _ t384 _ _ t371 t402 _ ?side1 ?side2 ?side3 ?side4 A82.out).mono ?_); (case side1 => repeat (first | exact (Kd.qaw HO386.out).2.2 | (with_reducible first | refine Kd.qav ?_ _ | refine Kd.qau ?_ _ | refine Kd.qba ?_))); (case side2 => exact (Kd.qaw HO386.out).2.1); (case side3 => repeat (first | exact (Kd.qaw HO373.out).2.2 | (with_reducible first | refine Kd.qav ?_ _ | refine Kd.qau ?_ _ | refine Kd.qba ?_))); (case side4 => exact (Kd.qaw HO373.out).2.1); rintro e w83 ⟨rfl, hb⟩; have n0_ := qad.mk (Kd.qax (by (with_reducible repeat (first | apply Kd.qap | apply Kd.qao | apply Kd.qas)); exact HO367.out) hb); have n1_ := qad.mk (Kd.qax (by (with_reducible repeat (first | apply Kd.qap | apply Kd.qao | apply Kd.qas)); exact HO370.out) hb); have n2_ := qad.mk (Kd.qax (by (with_reducible repeat (first | apply Kd.qap | apply Kd.qao | apply Kd.qas)); exact HO373.out) hb); have n3_ := qad.mk (Kd.qax (by (with_reducible repeat (first | apply Kd.qap | apply Kd.qao | apply Kd.qas)); exact HO378.out) hb); have n4_ := qad.mk (Kd.qax (by (with_reducible repeat (first | apply Kd.qap | apply Kd.qao | apply Kd.qas)); exact HO382.out) hb); have n5_ := qad.mk (Kd.qax (by (with_reducible repeat (first | apply Kd.qap | apply Kd.qao | apply Kd.qas)); exact HO386.out) hb); have n6_ := qad.mk (Kd.qax (by (with_reducible repeat (first | apply Kd.qap | apply Kd.qao | apply Kd.qas)); exact HO392.out) hb); have n7_ := qad.mk (Kd.qax (by (with_reducible repeat (first | apply Kd.qap | apply Kd.qao | apply Kd.qas)); exact HO396.out) hb); have n8_ := qad.mk (qam (g := gb359) (o := .cells #[.int .i64 a0_0, .int .i64 a0_1, .slice A0_2 l0_2.length c0_2] 26 (0, 0)) (by (with_reducible repeat (first | refine qai ?_ _ | refine qaj ?_ | refine qah ?_ _)); exact BK359.out) hb); have n9_ := qad.mk (qam (g := gb360) (o := .cells #[.slice A1_0 l1_0.length c1_0] 28 (0, 0)) (by (with_reducible repeat (first | refine qai ?_ _ | refine qaj ?_ | refine qah ?_ _)); exact BK360.out) hb); have n10_ := qad.mk (qam (g := gb379) (o := .cells #[.int .i64 t374, .int .i64 t375, .slice Ao55 t376.length co55] 34 (0, 0)) (by (with_reducible repeat (first | refine qai ?_ _ | refine qaj ?_ | refine qah ?_ _)); exact BK379.out) hb); have n11_ := qad.mk (qam (g := gb383) (o := .cells #[.slice Ao59 t380.length co59] 36 (0, 0)) (by (with_reducible repeat (first | refine qai ?_ _ | refine qaj ?_ | refine qah ?_ _)); exact BK383.out) hb); have n12_ := qad.mk (qak (by repeat (first | (with_reducible first | exact HB.out | apply qac | apply qaa | apply qab | refine qae ?_ GE359.out | refine qae ?_ GE360.out | refine qae ?_ GE379.out | refine qae ?_ GE383.out) | exact HB.out)) hb); clear HO367; clear HO370; clear HO373; clear HO378; clear HO382; clear HO386; clear HO392; clear HO396; clear BK359; clear BK360; clear BK379; clear BK383; clear HB; have HO367 := n0_; have HO370 := n1_; have HO373 := n2_; have HO378 := n3_; have HO382 := n4_; have HO386 := n5_; have HO392 := n6_; have HO396 := n7_; have BK359 := n8_; have BK360 := n9_; have BK379 := n10_; have BK383 := n11_; have HB := n12_; clear n0_ n1_ n2_ n3_ n4_ n5_ n6_ n7_ n8_ n9_ n10_ n11_ n12_; (try clear hb); (try clear hb2); (try clear hk); (try clear hi)))
        go_meet
        case rel => exact ⟨_, (!t402), (by first | rfl | (simp; done) | (simp [*]; done)), H', ⟨by first | omega | exact Nat.le_refl _⟩, ⟨by (with_reducible repeat (first | apply Kd.qap | apply Kd.qao | apply Kd.qas)); exact HO373.out⟩, ⟨by (with_reducible repeat (first | apply Kd.qap | apply Kd.qao | apply Kd.qas)); exact HO386.out⟩, ⟨by (with_reducible repeat (first | apply Kd.qap | apply Kd.qao | apply Kd.qas)); exact Kd.qbe HO378.out (fun _ hk => by first | exact hk.2.2.1 | (simp_all; done) | grind)⟩, ⟨by (with_reducible repeat (first | apply Kd.qap | apply Kd.qao | apply Kd.qas)); exact Kd.qbe HO382.out (fun _ hk => by first | exact hk.2.2.1 | (simp_all; done) | grind)⟩, ⟨by (with_reducible repeat (first | refine qai ?_ _ | refine qaj ?_ | refine qah ?_ _)); exact BK359.out⟩, ⟨by (with_reducible repeat (first | refine qai ?_ _ | refine qaj ?_ | refine qah ?_ _)); exact BK360.out⟩, ⟨by (with_reducible repeat (first | refine qai ?_ _ | refine qaj ?_ | refine qah ?_ _)); exact BK379.out⟩, ⟨by (with_reducible repeat (first | refine qai ?_ _ | refine qaj ?_ | refine qah ?_ _)); exact BK383.out⟩, ⟨by repeat (first | (with_reducible first | exact HB.out | apply qac | apply qaa | apply qab | refine qae ?_ GE359.out | refine qae ?_ GE360.out | refine qae ?_ GE379.out | refine qae ?_ GE383.out) | exact HB.out)⟩⟩
      case rest =>
       clear HC35
       try clear c1
       try clear c2
       try clear p2
       try clear c3
       try clear c5
       try clear c6
       try clear c8
       try clear c15
       try clear c16
       try clear c18
       try clear c19
       try clear c22
       try clear c23
       try clear c27
       try clear c28
       try clear c29
       try clear c31
       try clear c32
       try clear c33
       try clear c38
       try clear c52
       try clear c53
       try clear c60
       try clear c61
       try clear c62
       try clear c81
       try clear c81b0
       try clear hcz39_0
       try clear hcz39_1
       try clear hcz39_2
       try clear hcz41_0
       try clear hcz49_0
       try clear hcz49_1
       try clear hcz49_2
       try clear hcz54_0
       try clear hcz54_1
       try clear hcz54_2
       try clear hcz56_0
       try clear hcz63_0
       try clear hcz64_0
       try clear hcz64_1
       try clear hcz64_2
       try clear hcz77_0
       try clear hcz77_1
       try clear hcz77_2
       try clear hcz79_0
       try clear hfz39_0
       try clear hfz39_1
       try clear hfz39_2
       try clear hfz41_0
       try clear hfz49_0
       try clear hfz49_1
       try clear hfz49_2
       try clear hfz54_0
       try clear hfz54_1
       try clear hfz54_2
       try clear hfz56_0
       try clear hfz63_0
       try clear hfz64_0
       try clear hfz64_1
       try clear hfz64_2
       try clear hfz77_0
       try clear hfz77_1
       try clear hfz77_2
       try clear hfz79_0
       obtain ⟨kq, x63_34, rfl, HA, HJ34, HO_6, HO_9, HO_380002, HO_384000, BK359, BK360, BK379, BK383, HB⟩ := hcut
       have hl380002_34 := (Kd.qaw HO_380002.out).1
       rw [hl380002_34] at HO_380002
       (try simp only [hl380002_34])
       (try simp only [hl380002_34] at BK359)
       (try simp only [hl380002_34] at BK360)
       (try simp only [hl380002_34] at BK379)
       (try simp only [hl380002_34] at BK383)
       (try simp only [hl380002_34] at HO_6)
       (try simp only [hl380002_34] at HO_9)
       (try simp only [hl380002_34] at HO_384000)
       have hl384000_34 := (Kd.qaw HO_384000.out).1
       rw [hl384000_34] at HO_384000
       (try simp only [hl384000_34])
       (try simp only [hl384000_34] at BK359)
       (try simp only [hl384000_34] at BK360)
       (try simp only [hl384000_34] at BK379)
       (try simp only [hl384000_34] at BK383)
       (try simp only [hl384000_34] at HO_6)
       (try simp only [hl384000_34] at HO_9)
       (try simp only [hl384000_34] at HO_380002)
       cases kq with
       | zero => exact absurd HA.out (by simp [laws_FnExactDependsOf.j0])
       | succ kj34 =>
        have H := HA.out
        clear HA
        simp only [laws_FnExactDependsOf.j0] at H
        by_cases c84 : x63_34 = true
        ·subst c84
         have H1 := H
         rw [if_pos rfl] at H1
         clear H
         have H := H1
         clear H1
         obtain rfl := Option.some.inj H
         exact absurd HRT.out (by simp)
        ·replace c84 := Bool.eq_false_iff.mpr c84
         subst c84
         have H1 := H
         rw [if_neg (show ¬ (false = true) by decide)] at H1
         clear H
         have H := H1
         clear H1
         replace H := Option.bind_eq_some_iff.mp H
         obtain ⟨⟨t403, t404⟩, A850, H⟩ := H
         try dsimp only at H
         have A85 := qad.mk A850
         clear A850
         replace H := Option.bind_eq_some_iff.mp H
         obtain ⟨t405, A860, H⟩ := H
         try dsimp only at H
         have A86 := qad.mk A860
         clear A860
         by_cases c87 : t405 < 0
         ·rw [if_pos c87] at H
          have c87b0 : decide (t405 < 0) = true := decide_eq_true c87
          clear c87
          obtain rfl := Option.some.inj H
          exact absurd HRT.out (by simp)
         ·rw [if_neg c87] at H
          have c87b0 : decide (t405 < 0) = false := decide_eq_false c87
          clear c87
          by_cases c88 : t405 = t403
          ·rw [if_pos c88] at H
           have c88b0 : (t405 == t403) = true := beq_iff_eq.mpr c88
           have c88b1 : (t405 != t403) = false := bne_eq_false_iff_eq.mpr c88
           clear c88
           replace H := Option.bind_eq_some_iff.mp H
           obtain ⟨⟨t406, t407, t408⟩, A890, H⟩ := H
           try dsimp only at H
           have A89 := qad.mk A890
           clear A890
           replace H := Option.bind_eq_some_iff.mp H
           obtain ⟨t411, A900, H⟩ := H
           try dsimp only at H
           have A90 := qad.mk A900
           clear A900
           replace H := Option.bind_eq_some_iff.mp H
           obtain ⟨t414, A910, H⟩ := H
           try dsimp only at H
           have A91 := qad.mk A910
           clear A910
           replace H := Option.bind_eq_some_iff.mp H
           obtain ⟨t417, A920, H⟩ := H
           try dsimp only at H
           have A92 := qad.mk A920
           clear A920
           by_cases c93 : t417 = true
           ·subst c93
            have H1 := H
            rw [if_pos rfl] at H1
            clear H
            have H := H1
            clear H1
            replace H := Option.bind_eq_some_iff.mp H
            obtain ⟨t418, A940, H⟩ := H
            try dsimp only at H
            have A94 := qad.mk A940
            clear A940
            by_cases c95 : t418 < 0
            ·rw [if_pos c95] at H
             have c95b0 : decide (t418 < 0) = true := decide_eq_true c95
             clear c95
             obtain rfl := Option.some.inj H
             exact absurd HRT.out (by simp)
            ·rw [if_neg c95] at H
             have c95b0 : decide (t418 < 0) = false := decide_eq_false c95
             clear c95
             by_cases c96 : t418 = t403
             ·rw [if_pos c96] at H
              have c96b0 : (t418 == t403) = true := beq_iff_eq.mpr c96
              have c96b1 : (t418 != t403) = false := bne_eq_false_iff_eq.mpr c96
              clear c96
              obtain rfl := Option.some.inj H
              try go_wp2_with (first | ((with_reducible refine qan (f := 34) rfl ?_); refine qay (some 66) rfl rfl Try.func34 (by kernel_rfl) rfl #[.slice Ao66 t384.length co66, .int .i64 1] rfl (by (try simp only [List.map_toArray, List.map_cons, List.map_nil]); first | done | rfl | (simp only [List.length_drop, List.length_take]; rfl)) ?_; (with_reducible refine (laws_markDependS.calls kj34 (fun k_ => some k_ = (.slice Ao66 t384.length co66 : Value).ownBlock) (.slice Ao66 t384.length co66) t384 1 t403 t404 w _ ?side1 ?side2 A85.out).mono ?_); (case side1 => repeat (first | (with_reducible first | exact HB.out | apply qac | apply qaa | apply qab | refine qae ?_ GE359.out | refine qae ?_ GE360.out | refine qae ?_ GE379.out | refine qae ?_ GE383.out) | exact HB.out)); (case side2 => exact Kd.qcp rfl HO_9.out); rintro e w97 ⟨rfl, hy0, hb, hkp⟩; refine ⟨_, rfl, ?_⟩; have n0_ := qad.mk (Kd.qbe (ok' := fun k_ => some k_ ≠ (.slice Ao66 t384.length co66 : Value).ownBlock) (Kd.qbs (HO_6.out) hkp (fun k_ hk_ hs_ => by first | exact (hk_) hs_ | (simp_all; done) | grind)) (fun k_ hk_ => by first | exact hk_.1 | (simp_all; done) | grind)); have n1_ := qad.mk (Kd.qcs rfl hy0 (fun k_ e_ => HO_9.out.1 k_ e_)); have n2_ := qad.mk (Kd.qbe (ok' := fun k_ => some k_ ≠ (.slice Ao59 t401.length co59 : Value).ownBlock) (Kd.qbs ((Kd.qbu HO_380002.out (Kd.qcd HO_9.out) (by decide))) hkp (fun k_ hk_ hs_ => by first | exact (hk_.2) hs_ | (simp_all; done) | grind)) (fun k_ hk_ => by first | exact hk_.1.1 | (simp_all; done) | grind)); have n3_ := qad.mk (Kd.qbe (ok' := fun k_ => some k_ ≠ (.slice Ao55 t399.length co55 : Value).ownBlock) (Kd.qbs ((Kd.qbu HO_384000.out (Kd.qcd HO_9.out) (by decide))) hkp (fun k_ hk_ hs_ => by first | exact (hk_.2) hs_ | (simp_all; done) | grind)) (fun k_ hk_ => by first | exact hk_.1.1 | (simp_all; done) | grind)); have n4_ := qad.mk (qbn (by (with_reducible repeat (first | refine qai ?_ _ | refine qaj ?_ | refine qah ?_ _)); exact BK359.out) hkp (fun hs_ => (fun e_ => (Kd.R_ne HO_9.out BK359.out (by decide)) e_) hs_)); have n5_ := qad.mk (qbn (by (with_reducible repeat (first | refine qai ?_ _ | refine qaj ?_ | refine qah ?_ _)); exact BK360.out) hkp (fun hs_ => (fun e_ => (Kd.R_ne HO_9.out BK360.out (by decide)) e_) hs_)); have n6_ := qad.mk (qbn (by (with_reducible repeat (first | refine qai ?_ _ | refine qaj ?_ | refine qah ?_ _)); exact BK379.out) hkp (fun hs_ => (fun e_ => (Kd.R_ne HO_9.out BK379.out (by decide)) e_) hs_)); have n7_ := qad.mk (qbn (by (with_reducible repeat (first | refine qai ?_ _ | refine qaj ?_ | refine qah ?_ _)); exact BK383.out) hkp (fun hs_ => (fun e_ => (Kd.R_ne HO_9.out BK383.out (by decide)) e_) hs_)); have n8_ := qad.mk (hb); clear HO_6; clear HO_9; clear HO_380002; clear HO_384000; clear BK359; clear BK360; clear BK379; clear BK383; clear HB; have HO_6 := n0_; have HO_9 := n1_; have HO_380002 := n2_; have HO_384000 := n3_; have BK359 := n4_; have BK360 := n5_; have BK379 := n6_; have BK383 := n7_; have HB := n8_; clear n0_ n1_ n2_ n3_ n4_ n5_ n6_ n7_ n8_; (try clear hb); (try clear hkp); (try clear hy0)) | ((with_reducible refine qan (f := 35) rfl ?_); refine qay (some 69) rfl rfl Try.func35 (by kernel_rfl) rfl #[.slice Ao66 t404.length co66, .int .i64 1] rfl (by (try simp only [List.map_toArray, List.map_cons, List.map_nil]); first | done | (rw [show t404.length = t384.length from (Kd.qaw HO_9.out).1.symm] <;> rfl) | rfl | (simp only [List.length_drop, List.length_take]; rfl)) ?_; (with_reducible refine (laws_heldDependS.calls kj34 _ _ t404 1 t405 _ ?side1 ?side2 A86.out).mono ?_); (case side1 => repeat (first | exact (Kd.qaw HO_9.out).2.2 | (with_reducible first | refine Kd.qav ?_ _ | refine Kd.qau ?_ _ | refine Kd.qba ?_))); (case side2 => rw [show t404.length = t384.length from (Kd.qaw HO_9.out).1.symm]; exact (Kd.qaw HO_9.out).2.1); rintro e w' ⟨rfl, ⟨nd, rfl⟩⟩; refine ⟨_, rfl, ?_⟩))
              (try (rw [qda w97]; generalize hq_ : World.drewN w97 _ = w97; have n0_ : qad (Kd.R (Kd.int .i64) 3 w97 w.heap.size (fun k_ => some k_ ≠ (.slice Ao59 t401.length co59 : Value).ownBlock) (.slice Ao55 t399.length co55) t399) := ⟨by rw [← hq_]; exact (by (with_reducible repeat (first | apply Kd.qap | apply Kd.qao | apply Kd.qas)); exact HO_380002.out)⟩; have n1_ : qad (Kd.R (Kd.int .i64) 3 w97 w.heap.size (fun k_ => some k_ ≠ (.slice Ao55 t399.length co55 : Value).ownBlock) (.slice Ao59 t401.length co59) t401) := ⟨by rw [← hq_]; exact (by (with_reducible repeat (first | apply Kd.qap | apply Kd.qao | apply Kd.qas)); exact HO_384000.out)⟩; have n2_ : qad (Kd.R k83 83 w97 w.heap.size (fun k_ => some k_ ≠ (.slice Ao66 t384.length co66 : Value).ownBlock) (.slice Ao67 t371.length co67) t371) := ⟨by rw [← hq_]; exact (by (with_reducible repeat (first | apply Kd.qap | apply Kd.qao | apply Kd.qas)); exact HO_6.out)⟩; have n3_ : qad (Kd.R k83 83 w97 w.heap.size (fun k_ => some k_ ≠ (.slice Ao67 t371.length co67 : Value).ownBlock) (.slice Ao66 t384.length co66) t404) := ⟨by rw [← hq_]; exact (by (with_reducible repeat (first | apply Kd.qap | apply Kd.qao | apply Kd.qas)); exact HO_9.out)⟩; have n4_ : qad (w97.heap[gb359]? = some (.cells #[.int .i64 a0_0, .int .i64 a0_1, .slice A0_2 l0_2.length c0_2] 26 (0, 0))) := ⟨by rw [← hq_]; exact (by (with_reducible repeat (first | refine qai ?_ _ | refine qaj ?_ | refine qah ?_ _)); exact BK359.out)⟩; have n5_ : qad (w97.heap[gb360]? = some (.cells #[.slice A1_0 l1_0.length c1_0] 28 (0, 0))) := ⟨by rw [← hq_]; exact (by (with_reducible repeat (first | refine qai ?_ _ | refine qaj ?_ | refine qah ?_ _)); exact BK360.out)⟩; have n6_ : qad (w97.heap[gb379]? = some (.cells #[.int .i64 t374, .int .i64 t375, .slice Ao55 t399.length co55] 34 (0, 0))) := ⟨by rw [← hq_]; exact (by (with_reducible repeat (first | refine qai ?_ _ | refine qaj ?_ | refine qah ?_ _)); exact BK379.out)⟩; have n7_ : qad (w97.heap[gb383]? = some (.cells #[.slice Ao59 t401.length co59] 36 (0, 0))) := ⟨by rw [← hq_]; exact (by (with_reducible repeat (first | refine qai ?_ _ | refine qaj ?_ | refine qah ?_ _)); exact BK383.out)⟩; have n8_ : qad (Below w.heap.size w w97) := ⟨by rw [← hq_]; exact (by repeat (first | (with_reducible first | exact HB.out | apply qac | apply qaa | apply qab | refine qae ?_ GE359.out | refine qae ?_ GE360.out | refine qae ?_ GE379.out | refine qae ?_ GE383.out) | exact HB.out))⟩; clear HO_380002 HO_384000 HO_6 HO_9 BK359 BK360 BK379 BK383 HB hq_; have HO_380002 := n0_; have HO_384000 := n1_; have HO_6 := n2_; have HO_9 := n3_; have BK359 := n4_; have BK360 := n5_; have BK379 := n6_; have BK383 := n7_; have HB := n8_; clear n0_ n1_ n2_ n3_ n4_ n5_ n6_ n7_ n8_))
              have n0_ := qad.mk (Kd.qas HO_6.out)
              have n1_ := qad.mk (Kd.qas HO_9.out)
              have n2_ := qad.mk (Kd.qas HO_380002.out)
              have n3_ := qad.mk (Kd.qas HO_384000.out)
              have n4_ := qad.mk (qaj BK359.out)
              have n5_ := qad.mk (qaj BK360.out)
              have n6_ := qad.mk (qaj BK379.out)
              have n7_ := qad.mk (qaj BK383.out)
              have n8_ := qad.mk (qab HB.out)
              clear HO_6
              clear HO_9
              clear HO_380002
              clear HO_384000
              clear BK359
              clear BK360
              clear BK379
              clear BK383
              clear HB
              have HO_6 := n0_
              have HO_9 := n1_
              have HO_380002 := n2_
              have HO_384000 := n3_
              have BK359 := n4_
              have BK360 := n5_
              have BK379 := n6_
              have BK383 := n7_
              have HB := n8_
              clear n0_ n1_ n2_ n3_ n4_ n5_ n6_ n7_ n8_
              refine qcb (n := 6) (S := fun w' => w'.cell? ⟨gb359, 0, none⟩ = some (.int .i64 a0_0) ∧ w'.cell? ⟨gb359, 1, none⟩ = some (.int .i64 a0_1) ∧ w'.cell? ⟨gb359, 2, none⟩ = some (.slice A0_2 l0_2.length c0_2) ∧ w'.cell? ⟨gb360, 0, none⟩ = some (.slice A1_0 l1_0.length c1_0)) (ds := []) #[false, false, false, false, false, false] (by kernel_rfl) rfl rfl ⟨(qag BK359.out 0).trans rfl, (qag BK359.out 1).trans rfl, (qag BK359.out 2).trans rfl, (qag BK360.out 0).trans rfl⟩ (fun hHeld => ?_)
              generalize w97.drew = w98 at HO_6 HO_9 HO_380002 HO_384000 BK359 BK360 BK379 BK383 HB hHeld ⊢
              refine take_ (i := 0) (N := some 75) (v := ?_) (a' := ?_) #[true, false, false, false, false, false] rfl rfl (by kernel_rfl) (fun _ _ _ h => h) (Or.inl ⟨by rfl, ?_⟩) hHeld ?_ ?_
              rotate_left
              ·rintro w' ⟨s0, s1, s2, s3⟩
               go_simp
               with_reducible rfl
              rotate_left
              ·simp only [Act.put, List.setIfInBounds_toArray, List.set_cons_zero, List.set_cons_succ, i64_w, i32_w]
               rfl
              refine take_ (i := 2) (N := some 77) (v := ?_) (a' := ?_) #[true, false, true, false, false, false] rfl rfl (by kernel_rfl) (fun _ _ _ h => h) (Or.inl ⟨by rfl, ?_⟩) hHeld ?_ ?_
              rotate_left
              ·rintro w' ⟨s0, s1, s2, s3⟩
               go_simp
               with_reducible rfl
              rotate_left
              ·simp only [Act.put, List.setIfInBounds_toArray, List.set_cons_zero, List.set_cons_succ, i64_w, i32_w]
               rfl
              refine one_ (i := 1) (N := some 76) #[true, true, true, false, false, false] rfl rfl (by kernel_rfl) (by decide) (fun K hK => ?_)
              refine goes_ Try.func18 (by kernel_rfl) rfl #[.agg #[.int .i64 a0_0, .int .i64 a0_1, .slice A0_2 l0_2.length c0_2]] (by rfl) rfl rfl (by (try simp only [List.map_toArray, List.map_cons, List.map_nil]); first | done | rfl | (simp only [List.length_drop, List.length_take]; rfl)) ?_
              with_reducible refine (laws_toMesh.calls kj34 a0_0 a0_1 _ _ l0_2 t406 t407 t408 _ ?side1 ?side2 A89.out).mono ?_
              (case side1 => repeat (first | exact (Kd.qaz HR0_2.out HB.out) | (with_reducible first | refine Kd.qav ?_ _ | refine Kd.qau ?_ _ | refine Kd.qba ?_)))
              (case side2 => exact HC0_2.out)
              rintro e w99 ⟨v409, rfl, ho0, hb⟩
              refine ⟨_, rfl, ?_⟩
              have n0_ := qad.mk (Kd.qax (by (with_reducible repeat (first | apply Kd.qap | apply Kd.qao | apply Kd.qas)); exact HO_6.out) hb)
              have n1_ := qad.mk (Kd.qax (by (with_reducible repeat (first | apply Kd.qap | apply Kd.qao | apply Kd.qas)); exact HO_9.out) hb)
              have n2_ := qad.mk (Kd.qbf (by (with_reducible repeat (first | apply Kd.qap | apply Kd.qao | apply Kd.qas)); exact HO_380002.out) (Kd.qbk ho0) hb)
              have n3_ := qad.mk (Kd.qbf (by (with_reducible repeat (first | apply Kd.qap | apply Kd.qao | apply Kd.qas)); exact HO_384000.out) (Kd.qbk ho0) hb)
              have n4_ := qad.mk (Kd.qbi (Kd.qbl (Kd.qbl ho0 (Kd.R_lt (by (with_reducible repeat (first | apply Kd.qap | apply Kd.qao | apply Kd.qas)); exact HO_380002.out))) (Kd.R_lt (by (with_reducible repeat (first | apply Kd.qap | apply Kd.qao | apply Kd.qas)); exact HO_384000.out))) (qal (by repeat (first | (with_reducible first | exact HB.out | apply qac | apply qaa | apply qab | refine qae ?_ GE359.out | refine qae ?_ GE360.out | refine qae ?_ GE379.out | refine qae ?_ GE383.out) | exact HB.out))))
              have n5_ := qad.mk (qam (g := gb359) (o := .cells #[.int .i64 a0_0, .int .i64 a0_1, .slice A0_2 l0_2.length c0_2] 26 (0, 0)) (by (with_reducible repeat (first | refine qai ?_ _ | refine qaj ?_ | refine qah ?_ _)); exact BK359.out) hb)
              have n6_ := qad.mk (qam (g := gb360) (o := .cells #[.slice A1_0 l1_0.length c1_0] 28 (0, 0)) (by (with_reducible repeat (first | refine qai ?_ _ | refine qaj ?_ | refine qah ?_ _)); exact BK360.out) hb)
              have n7_ := qad.mk (qam (g := gb379) (o := .cells #[.int .i64 t374, .int .i64 t375, .slice Ao55 t399.length co55] 34 (0, 0)) (by (with_reducible repeat (first | refine qai ?_ _ | refine qaj ?_ | refine qah ?_ _)); exact BK379.out) hb)
              have n8_ := qad.mk (qam (g := gb383) (o := .cells #[.slice Ao59 t401.length co59] 36 (0, 0)) (by (with_reducible repeat (first | refine qai ?_ _ | refine qaj ?_ | refine qah ?_ _)); exact BK383.out) hb)
              have n9_ := qad.mk (qak (by repeat (first | (with_reducible first | exact HB.out | apply qac | apply qaa | apply qab | refine qae ?_ GE359.out | refine qae ?_ GE360.out | refine qae ?_ GE379.out | refine qae ?_ GE383.out) | exact HB.out)) hb)
              clear HO_6
              clear HO_9
              clear HO_380002
              clear HO_384000
              clear BK359
              clear BK360
              clear BK379
              clear BK383
              clear HB
              have HO_6 := n0_
              have HO_9 := n1_
              have HO_380002 := n2_
              have HO_384000 := n3_
              have HO410 := n4_
              have BK359 := n5_
              have BK360 := n6_
              have BK379 := n7_
              have BK383 := n8_
              have HB := n9_
              clear n0_ n1_ n2_ n3_ n4_ n5_ n6_ n7_ n8_ n9_
              (try clear hb)
              (try clear hb2)
              (try clear hk)
              (try clear hi)
              (try clear ho0)
              refine hK.out _ _ ⟨(qag BK359.out 0).trans rfl, (qag BK359.out 1).trans rfl, (qag BK359.out 2).trans rfl, (qag BK360.out 0).trans rfl⟩ (fun hHeld => ?_)
              clear hK K
              refine norm_ (a' := ?_) ?_ ?_
              rotate_left
              ·show Act.put _ (some 76) _ = _
               simp only [Act.put, List.setIfInBounds_toArray, List.set_cons_zero, List.set_cons_succ, i64_w, i32_w]
               rfl
              refine one_ (i := 3) (N := some 78) #[true, true, true, true, false, false] rfl rfl (by kernel_rfl) (by decide) (fun K hK => ?_)
              refine goes_ Try.func19 (by kernel_rfl) rfl #[.agg #[.slice A1_0 l1_0.length c1_0]] (by rfl) rfl rfl (by (try simp only [List.map_toArray, List.map_cons, List.map_nil]); first | done | rfl | (simp only [List.length_drop, List.length_take]; rfl)) ?_
              with_reducible refine (laws_toTable.calls kj34 _ _ l1_0 t411 _ ?side1 ?side2 A90.out).mono ?_
              (case side1 => repeat (first | exact (Kd.qaz HR1_0.out HB.out) | (with_reducible first | refine Kd.qav ?_ _ | refine Kd.qau ?_ _ | refine Kd.qba ?_)))
              (case side2 => exact HC1_0.out)
              rintro e w100 ⟨v412, rfl, ho0, hb⟩
              refine ⟨_, rfl, ?_⟩
              have n0_ := qad.mk (Kd.qax (by (with_reducible repeat (first | apply Kd.qap | apply Kd.qao | apply Kd.qas)); exact HO_6.out) hb)
              have n1_ := qad.mk (Kd.qax (by (with_reducible repeat (first | apply Kd.qap | apply Kd.qao | apply Kd.qas)); exact HO_9.out) hb)
              have n2_ := qad.mk (Kd.qbf (by (with_reducible repeat (first | apply Kd.qap | apply Kd.qao | apply Kd.qas)); exact HO_380002.out) (Kd.qbk ho0) hb)
              have n3_ := qad.mk (Kd.qbf (by (with_reducible repeat (first | apply Kd.qap | apply Kd.qao | apply Kd.qas)); exact HO_384000.out) (Kd.qbk ho0) hb)
              have n4_ := qad.mk (Kd.qbf (by (with_reducible repeat (first | apply Kd.qap | apply Kd.qao | apply Kd.qas)); exact HO410.out) (Kd.qbk ho0) hb)
              have n5_ := qad.mk (Kd.qbi (Kd.qbl (Kd.qbl (Kd.qbl ho0 (Kd.R_lt (by (with_reducible repeat (first | apply Kd.qap | apply Kd.qao | apply Kd.qas)); exact HO_380002.out))) (Kd.R_lt (by (with_reducible repeat (first | apply Kd.qap | apply Kd.qao | apply Kd.qas)); exact HO_384000.out))) (Kd.R_lt (by (with_reducible repeat (first | apply Kd.qap | apply Kd.qao | apply Kd.qas)); exact HO410.out))) (qal (by repeat (first | (with_reducible first | exact HB.out | apply qac | apply qaa | apply qab | refine qae ?_ GE359.out | refine qae ?_ GE360.out | refine qae ?_ GE379.out | refine qae ?_ GE383.out) | exact HB.out))))
              have n6_ := qad.mk (qam (g := gb359) (o := .cells #[.int .i64 a0_0, .int .i64 a0_1, .slice A0_2 l0_2.length c0_2] 26 (0, 0)) (by (with_reducible repeat (first | refine qai ?_ _ | refine qaj ?_ | refine qah ?_ _)); exact BK359.out) hb)
              have n7_ := qad.mk (qam (g := gb360) (o := .cells #[.slice A1_0 l1_0.length c1_0] 28 (0, 0)) (by (with_reducible repeat (first | refine qai ?_ _ | refine qaj ?_ | refine qah ?_ _)); exact BK360.out) hb)
              have n8_ := qad.mk (qam (g := gb379) (o := .cells #[.int .i64 t374, .int .i64 t375, .slice Ao55 t399.length co55] 34 (0, 0)) (by (with_reducible repeat (first | refine qai ?_ _ | refine qaj ?_ | refine qah ?_ _)); exact BK379.out) hb)
              have n9_ := qad.mk (qam (g := gb383) (o := .cells #[.slice Ao59 t401.length co59] 36 (0, 0)) (by (with_reducible repeat (first | refine qai ?_ _ | refine qaj ?_ | refine qah ?_ _)); exact BK383.out) hb)
              have n10_ := qad.mk (qak (by repeat (first | (with_reducible first | exact HB.out | apply qac | apply qaa | apply qab | refine qae ?_ GE359.out | refine qae ?_ GE360.out | refine qae ?_ GE379.out | refine qae ?_ GE383.out) | exact HB.out)) hb)
              clear HO_6
              clear HO_9
              clear HO_380002
              clear HO_384000
              clear HO410
              clear BK359
              clear BK360
              clear BK379
              clear BK383
              clear HB
              have HO_6 := n0_
              have HO_9 := n1_
              have HO_380002 := n2_
              have HO_384000 := n3_
              have HO410 := n4_
              have HO413 := n5_
              have BK359 := n6_
              have BK360 := n7_
              have BK379 := n8_
              have BK383 := n9_
              have HB := n10_
              clear n0_ n1_ n2_ n3_ n4_ n5_ n6_ n7_ n8_ n9_ n10_
              (try clear hb)
              (try clear hb2)
              (try clear hk)
              (try clear hi)
              (try clear ho0)
              obtain ⟨Ao101, co101, eo101⟩ := Kd.qbg HO410.out
              (first | subst eo101 | (injection eo101 with f1_ f2_ f3_; have f4_ := f1_.symm; have f5_ := f3_.symm; clear f1_ f2_ f3_; subst f4_; subst f5_))
              obtain ⟨Ao102, co102, eo102⟩ := Kd.qbg HO413.out
              (first | subst eo102 | (injection eo102 with f1_ f2_ f3_; have f4_ := f1_.symm; have f5_ := f3_.symm; clear f1_ f2_ f3_; subst f4_; subst f5_))
              refine hK.out _ _ ⟨(qag BK359.out 0).trans rfl, (qag BK359.out 1).trans rfl, (qag BK359.out 2).trans rfl, (qag BK360.out 0).trans rfl⟩ (fun hHeld => ?_)
              clear hK K
              refine norm_ (a' := ?_) ?_ ?_
              rotate_left
              ·show Act.put _ (some 78) _ = _
               simp only [Act.put, List.setIfInBounds_toArray, List.set_cons_zero, List.set_cons_succ, i64_w, i32_w]
               rfl
              refine one_ (i := 4) (N := some 79) #[true, true, true, true, true, false] rfl rfl (by kernel_rfl) (by decide) (fun K hK => ?_)
              refine goes_ Try.func32 (by kernel_rfl) rfl #[.agg #[.int .i64 t406, .int .i64 t407, .slice Ao101 t408.length co101], .agg #[.slice Ao102 t411.length co102]] (by rfl) rfl rfl (by (try simp only [List.map_toArray, List.map_cons, List.map_nil]); first | done | rfl | (simp only [List.length_drop, List.length_take]; rfl)) ?_
              with_reducible refine (impl_DependsOf.calls kj34 t406 t407 _ _ t408 _ _ t411 t414 _ ?side1 ?side2 ?side3 ?side4 A91.out).mono ?_
              (case side1 => repeat (first | exact (Kd.qaw HO410.out).2.2 | (with_reducible first | refine Kd.qav ?_ _ | refine Kd.qau ?_ _ | refine Kd.qba ?_)))
              (case side2 => exact (Kd.qaw HO410.out).2.1)
              (case side3 => repeat (first | exact (Kd.qaw HO413.out).2.2 | (with_reducible first | refine Kd.qav ?_ _ | refine Kd.qau ?_ _ | refine Kd.qba ?_)))
              (case side4 => exact (Kd.qaw HO413.out).2.1)
              rintro e w103 ⟨v415, rfl, ho0, hb⟩
              refine ⟨_, rfl, ?_⟩
              have n0_ := qad.mk (Kd.qbf (by (with_reducible repeat (first | apply Kd.qap | apply Kd.qao | apply Kd.qas)); exact HO_6.out) (Kd.qbk ho0) hb)
              have n1_ := qad.mk (Kd.qbf (by (with_reducible repeat (first | apply Kd.qap | apply Kd.qao | apply Kd.qas)); exact HO_9.out) (Kd.qbk ho0) hb)
              have n2_ := qad.mk (Kd.qax (by (with_reducible repeat (first | apply Kd.qap | apply Kd.qao | apply Kd.qas)); exact HO_380002.out) hb)
              have n3_ := qad.mk (Kd.qax (by (with_reducible repeat (first | apply Kd.qap | apply Kd.qao | apply Kd.qas)); exact HO_384000.out) hb)
              have n4_ := qad.mk (Kd.qax (by (with_reducible repeat (first | apply Kd.qap | apply Kd.qao | apply Kd.qas)); exact HO410.out) hb)
              have n5_ := qad.mk (Kd.qax (by (with_reducible repeat (first | apply Kd.qap | apply Kd.qao | apply Kd.qas)); exact HO413.out) hb)
              have n6_ := qad.mk (Kd.qbi (Kd.qbl (Kd.qbl ho0 (Kd.R_lt (by (with_reducible repeat (first | apply Kd.qap | apply Kd.qao | apply Kd.qas)); exact HO_6.out))) (Kd.R_lt (by (with_reducible repeat (first | apply Kd.qap | apply Kd.qao | apply Kd.qas)); exact HO_9.out))) (qal (by repeat (first | (with_reducible first | exact HB.out | apply qac | apply qaa | apply qab | refine qae ?_ GE359.out | refine qae ?_ GE360.out | refine qae ?_ GE379.out | refine qae ?_ GE383.out) | exact HB.out))))
              have n7_ := qad.mk (qam (g := gb359) (o := .cells #[.int .i64 a0_0, .int .i64 a0_1, .slice A0_2 l0_2.length c0_2] 26 (0, 0)) (by (with_reducible repeat (first | refine qai ?_ _ | refine qaj ?_ | refine qah ?_ _)); exact BK359.out) hb)
              have n8_ := qad.mk (qam (g := gb360) (o := .cells #[.slice A1_0 l1_0.length c1_0] 28 (0, 0)) (by (with_reducible repeat (first | refine qai ?_ _ | refine qaj ?_ | refine qah ?_ _)); exact BK360.out) hb)
              have n9_ := qad.mk (qam (g := gb379) (o := .cells #[.int .i64 t374, .int .i64 t375, .slice Ao55 t399.length co55] 34 (0, 0)) (by (with_reducible repeat (first | refine qai ?_ _ | refine qaj ?_ | refine qah ?_ _)); exact BK379.out) hb)
              have n10_ := qad.mk (qam (g := gb383) (o := .cells #[.slice Ao59 t401.length co59] 36 (0, 0)) (by (with_reducible repeat (first | refine qai ?_ _ | refine qaj ?_ | refine qah ?_ _)); exact BK383.out) hb)
              have n11_ := qad.mk (qak (by repeat (first | (with_reducible first | exact HB.out | apply qac | apply qaa | apply qab | refine qae ?_ GE359.out | refine qae ?_ GE360.out | refine qae ?_ GE379.out | refine qae ?_ GE383.out) | exact HB.out)) hb)
              clear HO_6
              clear HO_9
              clear HO_380002
              clear HO_384000
              clear HO410
              clear HO413
              clear BK359
              clear BK360
              clear BK379
              clear BK383
              clear HB
              have HO_6 := n0_
              have HO_9 := n1_
              have HO_380002 := n2_
              have HO_384000 := n3_
              have HO410 := n4_
              have HO413 := n5_
              have HO416 := n6_
              have BK359 := n7_
              have BK360 := n8_
              have BK379 := n9_
              have BK383 := n10_
              have HB := n11_
              clear n0_ n1_ n2_ n3_ n4_ n5_ n6_ n7_ n8_ n9_ n10_ n11_
              (try clear hb)
              (try clear hb2)
              (try clear hk)
              (try clear hi)
              (try clear ho0)
              refine hK.out _ _ ⟨(qag BK359.out 0).trans rfl, (qag BK359.out 1).trans rfl, (qag BK359.out 2).trans rfl, (qag BK360.out 0).trans rfl⟩ (fun hHeld => ?_)
              clear hK K
              refine norm_ (a' := ?_) ?_ ?_
              rotate_left
              ·show Act.put _ (some 79) _ = _
               simp only [Act.put, List.setIfInBounds_toArray, List.set_cons_zero, List.set_cons_succ, i64_w, i32_w]
               rfl
              refine pure_ (i := 5) (N := some 13) (v := ?_) (a' := ?_) #[true, true, true, true, true, true] rfl rfl (by kernel_rfl) (fun _ _ _ h => h) (Or.inl ⟨by rfl, ?_⟩) ?_ ?_
              rotate_left
              ·intro w'
               go_simp
               with_reducible rfl
              rotate_left
              ·simp only [Act.put, List.setIfInBounds_toArray, List.set_cons_zero, List.set_cons_succ, i64_w, i32_w]
               rfl
              refine done_ (by kernel_rfl) ?_
              obtain ⟨Ao104, co104, eo104⟩ := Kd.qbg HO416.out
              subst eo104
              try go_wp2_with (first | ((with_reducible refine qan (f := 33) rfl ?_); refine qay (some 82) rfl rfl Try.func33 (by kernel_rfl) rfl #[.slice Ao104 t414.length co104, .slice Ao67 t371.length co67] rfl (by (try simp only [List.map_toArray, List.map_cons, List.map_nil]); first | done | rfl | (simp only [List.length_drop, List.length_take]; rfl)) ?_; (with_reducible refine (laws_eqDependS.calls kj34 _ _ t414 _ _ t371 true _ ?side1 ?side2 ?side3 ?side4 A92.out).mono ?_); (case side1 => repeat (first | exact (Kd.qaw HO416.out).2.2 | (with_reducible first | refine Kd.qav ?_ _ | refine Kd.qau ?_ _ | refine Kd.qba ?_))); (case side2 => exact (Kd.qaw HO416.out).2.1); (case side3 => repeat (first | exact (Kd.qaw HO_6.out).2.2 | (with_reducible first | refine Kd.qav ?_ _ | refine Kd.qau ?_ _ | refine Kd.qba ?_))); (case side4 => exact (Kd.qaw HO_6.out).2.1); rintro e w105 ⟨rfl, hb⟩; refine ⟨_, rfl, ?_⟩; have n0_ := qad.mk (Kd.qax (by (with_reducible repeat (first | apply Kd.qap | apply Kd.qao | apply Kd.qas)); exact HO_6.out) hb); have n1_ := qad.mk (Kd.qax (by (with_reducible repeat (first | apply Kd.qap | apply Kd.qao | apply Kd.qas)); exact HO_9.out) hb); have n2_ := qad.mk (Kd.qax (by (with_reducible repeat (first | apply Kd.qap | apply Kd.qao | apply Kd.qas)); exact HO_380002.out) hb); have n3_ := qad.mk (Kd.qax (by (with_reducible repeat (first | apply Kd.qap | apply Kd.qao | apply Kd.qas)); exact HO_384000.out) hb); have n4_ := qad.mk (Kd.qax (by (with_reducible repeat (first | apply Kd.qap | apply Kd.qao | apply Kd.qas)); exact HO410.out) hb); have n5_ := qad.mk (Kd.qax (by (with_reducible repeat (first | apply Kd.qap | apply Kd.qao | apply Kd.qas)); exact HO413.out) hb); have n6_ := qad.mk (Kd.qax (by (with_reducible repeat (first | apply Kd.qap | apply Kd.qao | apply Kd.qas)); exact HO416.out) hb); have n7_ := qad.mk (qam (g := gb359) (o := .cells #[.int .i64 a0_0, .int .i64 a0_1, .slice A0_2 l0_2.length c0_2] 26 (0, 0)) (by (with_reducible repeat (first | refine qai ?_ _ | refine qaj ?_ | refine qah ?_ _)); exact BK359.out) hb); have n8_ := qad.mk (qam (g := gb360) (o := .cells #[.slice A1_0 l1_0.length c1_0] 28 (0, 0)) (by (with_reducible repeat (first | refine qai ?_ _ | refine qaj ?_ | refine qah ?_ _)); exact BK360.out) hb); have n9_ := qad.mk (qam (g := gb379) (o := .cells #[.int .i64 t374, .int .i64 t375, .slice Ao55 t399.length co55] 34 (0, 0)) (by (with_reducible repeat (first | refine qai ?_ _ | refine qaj ?_ | refine qah ?_ _)); exact BK379.out) hb); have n10_ := qad.mk (qam (g := gb383) (o := .cells #[.slice Ao59 t401.length co59] 36 (0, 0)) (by (with_reducible repeat (first | refine qai ?_ _ | refine qaj ?_ | refine qah ?_ _)); exact BK383.out) hb); have n11_ := qad.mk (qak (by repeat (first | (with_reducible first | exact HB.out | apply qac | apply qaa | apply qab | refine qae ?_ GE359.out | refine qae ?_ GE360.out | refine qae ?_ GE379.out | refine qae ?_ GE383.out) | exact HB.out)) hb); clear HO_6; clear HO_9; clear HO_380002; clear HO_384000; clear HO410; clear HO413; clear HO416; clear BK359; clear BK360; clear BK379; clear BK383; clear HB; have HO_6 := n0_; have HO_9 := n1_; have HO_380002 := n2_; have HO_384000 := n3_; have HO410 := n4_; have HO413 := n5_; have HO416 := n6_; have BK359 := n7_; have BK360 := n8_; have BK379 := n9_; have BK383 := n10_; have HB := n11_; clear n0_ n1_ n2_ n3_ n4_ n5_ n6_ n7_ n8_ n9_ n10_ n11_; (try clear hb); (try clear hb2); (try clear hk); (try clear hi)) | ((with_reducible refine qan (f := 35) rfl ?_); refine qay (some 86) rfl rfl Try.func35 (by kernel_rfl) rfl #[.slice Ao66 t404.length co66, .int .i64 1] rfl (by (try simp only [List.map_toArray, List.map_cons, List.map_nil]); first | done | (rw [show t404.length = t384.length from (Kd.qaw HO_9.out).1.symm] <;> rfl) | rfl | (simp only [List.length_drop, List.length_take]; rfl)) ?_; (with_reducible refine (laws_heldDependS.calls kj34 _ _ t404 1 t418 _ ?side1 ?side2 A94.out).mono ?_); (case side1 => repeat (first | exact (Kd.qaw HO_9.out).2.2 | (with_reducible first | refine Kd.qav ?_ _ | refine Kd.qau ?_ _ | refine Kd.qba ?_))); (case side2 => rw [show t404.length = t384.length from (Kd.qaw HO_9.out).1.symm]; exact (Kd.qaw HO_9.out).2.1); rintro e w' ⟨rfl, ⟨nd, rfl⟩⟩; refine ⟨_, rfl, ?_⟩))
              go_ret
              exact ⟨by first | rfl | (simp [errW_none, errW_some] <;> rfl) | (simp [*, errW_none, errW_some] <;> rfl), by repeat (first | (with_reducible first | exact HB.out | apply qac | apply qaa | apply qab | refine qae ?_ GE359.out | refine qae ?_ GE360.out | refine qae ?_ GE379.out | refine qae ?_ GE383.out) | exact HB.out)⟩
             ·rw [if_neg c96] at H
              have c96b0 : (t418 == t403) = false := beq_eq_false_iff_ne.mpr c96
              have c96b1 : (t418 != t403) = true := bne_iff_ne.mpr c96
              obtain rfl := Option.some.inj H
              exact absurd HRT.out (by simp)
           ·replace c93 := Bool.eq_false_iff.mpr c93
            subst c93
            have H1 := H
            rw [if_neg (show ¬ (false = true) by decide)] at H1
            clear H
            have H := H1
            clear H1
            obtain rfl := Option.some.inj H
            exact absurd HRT.out (by simp)
          ·rw [if_neg c88] at H
           have c88b0 : (t405 == t403) = false := beq_eq_false_iff_ne.mpr c88
           have c88b1 : (t405 != t403) = true := bne_iff_ne.mpr c88
           obtain rfl := Option.some.inj H
           exact absurd HRT.out (by simp)
     ·replace c32 := Bool.eq_false_iff.mpr c32
      subst c32
      have H1 := H
      rw [if_neg (show ¬ (false = true) by decide)] at H1
      clear H
      have H := H1
      clear H1
      obtain rfl := Option.some.inj H
      exact absurd HRT.out (by simp)
    ·replace c29 := Bool.eq_false_iff.mpr c29
     subst c29
     have H1 := H
     rw [if_neg (show ¬ (false = true) by decide)] at H1
     clear H
     have H := H1
     clear H1
     obtain rfl := Option.some.inj H
     exact absurd HRT.out (by simp)
   ·replace c26 := Bool.eq_false_iff.mpr c26
    subst c26
    have H1 := H
    rw [if_neg (show ¬ (false = true) by decide)] at H1
    clear H
    have H := H1
    clear H1
    obtain rfl := Option.some.inj H
    exact absurd HRT.out (by simp)

/-- THE ONE PURE STATEMENT of laws_FnExactDependsOf. -/
def laws_FnExactDependsOf.Pure : Prop := ∀ (a0_0 : Int) (a0_1 : Int) (l0_2 : List Int) (l1_0 : List Int), (Lit.int .i64 a0_0).wf = true → (Lit.int .i64 a0_1).wf = true → l0_2.length ≤ maxLen → (∀ y ∈ l0_2, (Lit.int .i64 y).wf = true) → l1_0.length ≤ maxLen → (∀ y ∈ l1_0, (Lit.int .i64 y).wf = true) → ∃ k, laws_FnExactDependsOf.f k a0_0 a0_1 l0_2 l1_0 = some true
theorem laws_FnExactDependsOf.walk (P : laws_FnExactDependsOf.Pure) (a0_0 : Int) (a0_1 : Int) (A0_2 : Option Addr) (c0_2 : Nat) (l0_2 : List Int) (A1_0 : Option Addr) (c1_0 : Nat) (l1_0 : List Int) (w : World) (hr0_2 : Kd.C (Kd.int .i64) w A0_2 l0_2.length l0_2) (hc0_2 : l0_2.length ≤ c0_2) (hr1_0 : Kd.C (Kd.int .i64) w A1_0 l1_0.length l1_0) (hc1_0 : l1_0.length ≤ c1_0) (hw0 : (Lit.int .i64 a0_0).wf = true) (hw1 : (Lit.int .i64 a0_1).wf = true) (hw2 : l0_2.length ≤ maxLen) (hw3 : (∀ y ∈ l0_2, (Lit.int .i64 y).wf = true)) (hw4 : l1_0.length ≤ maxLen) (hw5 : (∀ y ∈ l1_0, (Lit.int .i64 y).wf = true)) :
  Calls Try.prog 5 #[.agg #[.int .i64 a0_0, .int .i64 a0_1, .slice A0_2 l0_2.length c0_2], .agg #[.slice A1_0 l1_0.length c1_0]] w fun e w' => e = .returned (.bool true) ∧ Below w.heap.size w w' := by
 have h := P a0_0 a0_1 l0_2 l1_0 hw0 hw1 hw2 hw3 hw4 hw5
 obtain ⟨k, h⟩ := h
 refine (laws_FnExactDependsOf.calls k a0_0 a0_1 A0_2 c0_2 l0_2 A1_0 c1_0 l1_0 true w hr0_2 hc0_2 hr1_0 hc1_0 rfl h).mono ?_
 rintro e w' ⟨rfl, hd⟩
 exact ⟨rfl, hd⟩


end Go.Proofs.Ytmfkgnfjjfnfmaa.XD
