/- What is proved: contracts of functions of the program (each: where its Lean function answers, the call returns that answer); written by a program of this session. -/
import Derived.Test.YtmfkgnfjjfnfmaaXV0
import Derived.Test.YtmfkgnfjjfnfmaaXV1
import Derived.Test.YtmfkgnfjjfnfmaaXV4
namespace Go.Proofs.Ytmfkgnfjjfnfmaa.XV
open Go.RowKit Go.Proofs.YtmfkgnfjjfnfmaaW.PrintWords Go.Proofs.YtmfkgnfjjfnfmaaW.PrintLast Go.Proofs.YtmfkgnfjjfnfmaaW.PrintMore
attribute [local go_sem] qcg qce qck qcj qbz qby qcf qcd   -- for this text's walks alone
set_option linter.unusedVariables false
set_option linter.unusedSimpArgs false

attribute [local go_sem high] eqA83
/-! ### spec_l08Less: function 134 -/
def spec_l08Less.f (a0_0 : Int) (a0_1 : Int) (a1_0 : Int) (a1_1 : Int) : Option (Bool) := if a0_0 < a1_0 then (some true) else (if a0_0 = a1_0 then (some (decide (a0_1 < a1_1))) else (some false))
set_option maxHeartbeats 8000000 in
set_option maxRecDepth 100000 in
theorem spec_l08Less.calls (a0_0 : Int) (a0_1 : Int) (a1_0 : Int) (a1_1 : Int) (r : Bool) (w : World) (h : spec_l08Less.f a0_0 a0_1 a1_0 a1_1 = some r) :
  Calls Try.prog 134 #[.agg #[.int .i64 a0_0, .int .i64 a0_1], .agg #[.int .i64 a1_0, .int .i64 a1_1]] w fun e w' => e = .returned (.bool r) ∧ Below w.heap.size w w' := by
 have hu83 := Try.underlying83
 have HB := qab.mk (Below.refl w.heap.size w)
 have H : (if a0_0 < a1_0 then (some true) else (if a0_0 = a1_0 then (some (decide (a0_1 < a1_1))) else (some false))) = some r := h
 clear h
 by_cases c3 : a0_0 < a1_0
 ·rw [if_pos c3] at H
  have c3b0 : decide (a0_0 < a1_0) = true := decide_eq_true c3
  clear c3
  obtain rfl := Option.some.inj H
  go_enter Try.func134, Try.ntmps134
  go_wp2_with (first | ((with_reducible refine qas (N := 2) rfl ?_); refine qar ?hg (N := 2) ?hd (cs := #[.int .i64 a0_0, .int .i64 a0_1]) (t := 83) ?hr ?_; (case hd => rfl); (case hg => rfl); (case hr => first | (go_simp; done) | (go_simp; rfl)); intro gb264 hg w4 hbox hb; have n0_ := qab.mk (qak (by repeat (first | (with_reducible first | exact HB.out | apply qad | apply qaa | apply qac) | exact HB.out)) hb); have n1_ := qab.mk (hbox); have n2_ := qab.mk ((by rw [hg]; exact (qal (by repeat (first | (with_reducible first | exact HB.out | apply qad | apply qaa | apply qac) | exact HB.out))) : w.heap.size ≤ gb264)); have n3_ := qab.mk ((by rw [hg]; exact (qal (by repeat (first | (with_reducible first | exact HB.out | apply qad | apply qaa | apply qac) | exact HB.out))) : w.heap.size ≤ gb264)); clear HB; have HB := n0_; have BK264 := n1_; have GW264 := n2_; have GE264 := n3_; clear n0_ n1_ n2_ n3_; clear hb hbox hg) | ((with_reducible refine qas (N := 3) rfl ?_); refine qar ?hg (N := 3) ?hd (cs := #[.int .i64 a1_0, .int .i64 a1_1]) (t := 83) ?hr ?_; (case hd => rfl); (case hg => rfl); (case hr => first | (go_simp; done) | (go_simp; rfl)); intro gb265 hg w5 hbox hb; have n0_ := qab.mk (qam (g := gb264) (o := .cells #[.int .i64 a0_0, .int .i64 a0_1] 83 (0, 0)) (by (with_reducible repeat (first | refine qag ?_ _ | refine qaj ?_ | refine qaf ?_ _)); exact BK264.out) hb); have n1_ := qab.mk (qak (by repeat (first | (with_reducible first | exact HB.out | apply qad | apply qaa | apply qac | refine qae ?_ GE264.out) | exact HB.out)) hb); have n2_ := qab.mk (hbox); have n3_ := qab.mk ((by rw [hg]; exact (qal (by repeat (first | (with_reducible first | exact HB.out | apply qad | apply qaa | apply qac | refine qae ?_ GE264.out) | exact HB.out))) : w.heap.size ≤ gb265)); have n4_ := qab.mk ((by rw [hg]; exact (qal (by repeat (first | (with_reducible first | exact HB.out | apply qad | apply qaa | apply qac | refine qae ?_ GE264.out) | exact HB.out))) : w.heap.size ≤ gb265)); have n5_ := qab.mk ((by rw [hg]; exact Nat.ne_of_lt (qbo (g := gb264) (o := .cells #[.int .i64 a0_0, .int .i64 a0_1] 83 (0, 0)) (by (with_reducible repeat (first | refine qag ?_ _ | refine qaj ?_ | refine qaf ?_ _)); exact BK264.out)) : gb264 ≠ gb265)); have n6_ := qab.mk ((by rw [hg]; exact Nat.ne_of_gt (qbo (g := gb264) (o := .cells #[.int .i64 a0_0, .int .i64 a0_1] 83 (0, 0)) (by (with_reducible repeat (first | refine qag ?_ _ | refine qaj ?_ | refine qaf ?_ _)); exact BK264.out)) : gb265 ≠ gb264)); clear BK264; clear HB; have BK264 := n0_; have HB := n1_; have BK265 := n2_; have GW265 := n3_; have GE265 := n4_; have NB264_265 := n5_; have NB265_264 := n6_; clear n0_ n1_ n2_ n3_ n4_ n5_ n6_; clear hb hbox hg; have hnb6 := NB264_265.out; have hnc6 := NB265_264.out; have hcz7_0 : w5.cell? ⟨gb264, 0, none⟩ = some (.int .i64 a0_0) := (qai BK264.out 0).trans rfl; have hcz7_1 : w5.cell? ⟨gb264, 1, none⟩ = some (.int .i64 a0_1) := (qai BK264.out 1).trans rfl; have hfz7_0 := qah BK264.out 0; have hfz7_1 := qah BK264.out 1; have hcz8_0 : w5.cell? ⟨gb265, 0, none⟩ = some (.int .i64 a1_0) := (qai BK265.out 0).trans rfl; have hcz8_1 : w5.cell? ⟨gb265, 1, none⟩ = some (.int .i64 a1_1) := (qai BK265.out 1).trans rfl; have hfz8_0 := qah BK265.out 0; have hfz8_1 := qah BK265.out 1))
  go_ret
  exact ⟨by first | rfl | (simp [errW_none, errW_some] <;> rfl) | (simp [*, errW_none, errW_some] <;> rfl), by repeat (first | (with_reducible first | exact HB.out | apply qad | apply qaa | apply qac | refine qae ?_ GE264.out | refine qae ?_ GE265.out) | exact HB.out)⟩
 ·rw [if_neg c3] at H
  have c3b0 : decide (a0_0 < a1_0) = false := decide_eq_false c3
  clear c3
  by_cases c9 : a0_0 = a1_0
  ·rw [if_pos c9] at H
   have c9b0 : (a0_0 == a1_0) = true := beq_iff_eq.mpr c9
   have c9b1 : (a0_0 != a1_0) = false := bne_eq_false_iff_eq.mpr c9
   clear c9
   obtain rfl := Option.some.inj H
   go_enter Try.func134, Try.ntmps134
   go_wp2_with (first | ((with_reducible refine qas (N := 2) rfl ?_); refine qar ?hg (N := 2) ?hd (cs := #[.int .i64 a0_0, .int .i64 a0_1]) (t := 83) ?hr ?_; (case hd => rfl); (case hg => rfl); (case hr => first | (go_simp; done) | (go_simp; rfl)); intro gb264 hg w10 hbox hb; have n0_ := qab.mk (qak (by repeat (first | (with_reducible first | exact HB.out | apply qad | apply qaa | apply qac) | exact HB.out)) hb); have n1_ := qab.mk (hbox); have n2_ := qab.mk ((by rw [hg]; exact (qal (by repeat (first | (with_reducible first | exact HB.out | apply qad | apply qaa | apply qac) | exact HB.out))) : w.heap.size ≤ gb264)); have n3_ := qab.mk ((by rw [hg]; exact (qal (by repeat (first | (with_reducible first | exact HB.out | apply qad | apply qaa | apply qac) | exact HB.out))) : w.heap.size ≤ gb264)); clear HB; have HB := n0_; have BK264 := n1_; have GW264 := n2_; have GE264 := n3_; clear n0_ n1_ n2_ n3_; clear hb hbox hg) | ((with_reducible refine qas (N := 3) rfl ?_); refine qar ?hg (N := 3) ?hd (cs := #[.int .i64 a1_0, .int .i64 a1_1]) (t := 83) ?hr ?_; (case hd => rfl); (case hg => rfl); (case hr => first | (go_simp; done) | (go_simp; rfl)); intro gb265 hg w11 hbox hb; have n0_ := qab.mk (qam (g := gb264) (o := .cells #[.int .i64 a0_0, .int .i64 a0_1] 83 (0, 0)) (by (with_reducible repeat (first | refine qag ?_ _ | refine qaj ?_ | refine qaf ?_ _)); exact BK264.out) hb); have n1_ := qab.mk (qak (by repeat (first | (with_reducible first | exact HB.out | apply qad | apply qaa | apply qac | refine qae ?_ GE264.out) | exact HB.out)) hb); have n2_ := qab.mk (hbox); have n3_ := qab.mk ((by rw [hg]; exact (qal (by repeat (first | (with_reducible first | exact HB.out | apply qad | apply qaa | apply qac | refine qae ?_ GE264.out) | exact HB.out))) : w.heap.size ≤ gb265)); have n4_ := qab.mk ((by rw [hg]; exact (qal (by repeat (first | (with_reducible first | exact HB.out | apply qad | apply qaa | apply qac | refine qae ?_ GE264.out) | exact HB.out))) : w.heap.size ≤ gb265)); have n5_ := qab.mk ((by rw [hg]; exact Nat.ne_of_lt (qbo (g := gb264) (o := .cells #[.int .i64 a0_0, .int .i64 a0_1] 83 (0, 0)) (by (with_reducible repeat (first | refine qag ?_ _ | refine qaj ?_ | refine qaf ?_ _)); exact BK264.out)) : gb264 ≠ gb265)); have n6_ := qab.mk ((by rw [hg]; exact Nat.ne_of_gt (qbo (g := gb264) (o := .cells #[.int .i64 a0_0, .int .i64 a0_1] 83 (0, 0)) (by (with_reducible repeat (first | refine qag ?_ _ | refine qaj ?_ | refine qaf ?_ _)); exact BK264.out)) : gb265 ≠ gb264)); clear BK264; clear HB; have BK264 := n0_; have HB := n1_; have BK265 := n2_; have GW265 := n3_; have GE265 := n4_; have NB264_265 := n5_; have NB265_264 := n6_; clear n0_ n1_ n2_ n3_ n4_ n5_ n6_; clear hb hbox hg; have hnb12 := NB264_265.out; have hnc12 := NB265_264.out; have hcz13_0 : w11.cell? ⟨gb264, 0, none⟩ = some (.int .i64 a0_0) := (qai BK264.out 0).trans rfl; have hcz13_1 : w11.cell? ⟨gb264, 1, none⟩ = some (.int .i64 a0_1) := (qai BK264.out 1).trans rfl; have hfz13_0 := qah BK264.out 0; have hfz13_1 := qah BK264.out 1; have hcz14_0 : w11.cell? ⟨gb265, 0, none⟩ = some (.int .i64 a1_0) := (qai BK265.out 0).trans rfl; have hcz14_1 : w11.cell? ⟨gb265, 1, none⟩ = some (.int .i64 a1_1) := (qai BK265.out 1).trans rfl; have hfz14_0 := qah BK265.out 0; have hfz14_1 := qah BK265.out 1))
   go_ret
   exact ⟨by first | rfl | (simp [errW_none, errW_some] <;> rfl) | (simp [*, errW_none, errW_some] <;> rfl), by repeat (first | (with_reducible first | exact HB.out | apply qad | apply qaa | apply qac | refine qae ?_ GE264.out | refine qae ?_ GE265.out) | exact HB.out)⟩
  ·rw [if_neg c9] at H
   have c9b0 : (a0_0 == a1_0) = false := beq_eq_false_iff_ne.mpr c9
   have c9b1 : (a0_0 != a1_0) = true := bne_iff_ne.mpr c9
   obtain rfl := Option.some.inj H
   go_enter Try.func134, Try.ntmps134
   go_wp2_with (first | ((with_reducible refine qas (N := 2) rfl ?_); refine qar ?hg (N := 2) ?hd (cs := #[.int .i64 a0_0, .int .i64 a0_1]) (t := 83) ?hr ?_; (case hd => rfl); (case hg => rfl); (case hr => first | (go_simp; done) | (go_simp; rfl)); intro gb264 hg w15 hbox hb; have n0_ := qab.mk (qak (by repeat (first | (with_reducible first | exact HB.out | apply qad | apply qaa | apply qac) | exact HB.out)) hb); have n1_ := qab.mk (hbox); have n2_ := qab.mk ((by rw [hg]; exact (qal (by repeat (first | (with_reducible first | exact HB.out | apply qad | apply qaa | apply qac) | exact HB.out))) : w.heap.size ≤ gb264)); have n3_ := qab.mk ((by rw [hg]; exact (qal (by repeat (first | (with_reducible first | exact HB.out | apply qad | apply qaa | apply qac) | exact HB.out))) : w.heap.size ≤ gb264)); clear HB; have HB := n0_; have BK264 := n1_; have GW264 := n2_; have GE264 := n3_; clear n0_ n1_ n2_ n3_; clear hb hbox hg) | ((with_reducible refine qas (N := 3) rfl ?_); refine qar ?hg (N := 3) ?hd (cs := #[.int .i64 a1_0, .int .i64 a1_1]) (t := 83) ?hr ?_; (case hd => rfl); (case hg => rfl); (case hr => first | (go_simp; done) | (go_simp; rfl)); intro gb265 hg w16 hbox hb; have n0_ := qab.mk (qam (g := gb264) (o := .cells #[.int .i64 a0_0, .int .i64 a0_1] 83 (0, 0)) (by (with_reducible repeat (first | refine qag ?_ _ | refine qaj ?_ | refine qaf ?_ _)); exact BK264.out) hb); have n1_ := qab.mk (qak (by repeat (first | (with_reducible first | exact HB.out | apply qad | apply qaa | apply qac | refine qae ?_ GE264.out) | exact HB.out)) hb); have n2_ := qab.mk (hbox); have n3_ := qab.mk ((by rw [hg]; exact (qal (by repeat (first | (with_reducible first | exact HB.out | apply qad | apply qaa | apply qac | refine qae ?_ GE264.out) | exact HB.out))) : w.heap.size ≤ gb265)); have n4_ := qab.mk ((by rw [hg]; exact (qal (by repeat (first | (with_reducible first | exact HB.out | apply qad | apply qaa | apply qac | refine qae ?_ GE264.out) | exact HB.out))) : w.heap.size ≤ gb265)); have n5_ := qab.mk ((by rw [hg]; exact Nat.ne_of_lt (qbo (g := gb264) (o := .cells #[.int .i64 a0_0, .int .i64 a0_1] 83 (0, 0)) (by (with_reducible repeat (first | refine qag ?_ _ | refine qaj ?_ | refine qaf ?_ _)); exact BK264.out)) : gb264 ≠ gb265)); have n6_ := qab.mk ((by rw [hg]; exact Nat.ne_of_gt (qbo (g := gb264) (o := .cells #[.int .i64 a0_0, .int .i64 a0_1] 83 (0, 0)) (by (with_reducible repeat (first | refine qag ?_ _ | refine qaj ?_ | refine qaf ?_ _)); exact BK264.out)) : gb265 ≠ gb264)); clear BK264; clear HB; have BK264 := n0_; have HB := n1_; have BK265 := n2_; have GW265 := n3_; have GE265 := n4_; have NB264_265 := n5_; have NB265_264 := n6_; clear n0_ n1_ n2_ n3_ n4_ n5_ n6_; clear hb hbox hg; have hnb17 := NB264_265.out; have hnc17 := NB265_264.out; have hcz18_0 : w16.cell? ⟨gb264, 0, none⟩ = some (.int .i64 a0_0) := (qai BK264.out 0).trans rfl; have hcz18_1 : w16.cell? ⟨gb264, 1, none⟩ = some (.int .i64 a0_1) := (qai BK264.out 1).trans rfl; have hfz18_0 := qah BK264.out 0; have hfz18_1 := qah BK264.out 1; have hcz19_0 : w16.cell? ⟨gb265, 0, none⟩ = some (.int .i64 a1_0) := (qai BK265.out 0).trans rfl; have hcz19_1 : w16.cell? ⟨gb265, 1, none⟩ = some (.int .i64 a1_1) := (qai BK265.out 1).trans rfl; have hfz19_0 := qah BK265.out 0; have hfz19_1 := qah BK265.out 1))
   go_ret
   exact ⟨by first | rfl | (simp [errW_none, errW_some] <;> rfl) | (simp [*, errW_none, errW_some] <;> rfl), by repeat (first | (with_reducible first | exact HB.out | apply qad | apply qaa | apply qac | refine qae ?_ GE264.out | refine qae ?_ GE265.out) | exact HB.out)⟩


/-! ### spec_l08Put: function 86 -/
def spec_l08Put.l0 : Nat → List (S83) → Int → Int → Int → Option ((List (S83)))
 | 0, _, _, _, _ => none
 | k + 1, x0, x5, x267000, x267001 => if x5 > 0 then (if 0 ≤ (wrap64 (x5 - 1)) then (if (wrap64 (x5 - 1)) < (x0.length : Int) then ((spec_l08Less.f x267000 x267001 ((rd_T83 x0 (wrap64 (x5 - 1))).f0) ((rd_T83 x0 (wrap64 (x5 - 1))).f1)).bind fun t268 => (if t268 = true then (spec_l08Put.l0 k x0 (wrap64 (x5 - 1)) x267000 x267001) else (if (((rd_T83 x0 (wrap64 (x5 - 1))).f0) == x267000 && (((rd_T83 x0 (wrap64 (x5 - 1))).f1) == x267001)) = true then (some x0) else ((some (([] : List (S83)) : List (S83))).bind fun y270 => (if 0 ≤ x5 then (if x5 ≤ (x0.length : Int) then ((some (x0.take (x5 : Int).toNat : List (S83))).bind fun y273 => (if y270.length + y273.length < 8796093022208 then ((some (y270 ++ y273 : List (S83))).bind fun y277 => (if y277.length < 8796093022208 then ((some (y277 ++ [(⟨x267000, x267001⟩ : S83)] : List (S83))).bind fun y280 => ((some (x0.drop (x5 : Int).toNat : List (S83))).bind fun y283 => (if y280.length + y283.length < 8796093022208 then (some (y280 ++ y283)) else (none)))) else (none))) else (none))) else (none)) else (none)))))) else (none)) else (none)) else ((some (([] : List (S83)) : List (S83))).bind fun y290 => (if 0 ≤ x5 then (if x5 ≤ (x0.length : Int) then ((some (x0.take (x5 : Int).toNat : List (S83))).bind fun y293 => (if y290.length + y293.length < 8796093022208 then ((some (y290 ++ y293 : List (S83))).bind fun y297 => (if y297.length < 8796093022208 then ((some (y297 ++ [(⟨x267000, x267001⟩ : S83)] : List (S83))).bind fun y300 => ((some (x0.drop (x5 : Int).toNat : List (S83))).bind fun y303 => (if y300.length + y303.length < 8796093022208 then (some (y300 ++ y303)) else (none)))) else (none))) else (none))) else (none)) else (none)))
def spec_l08Put.f (k : Nat) (l0 : List (S83)) (a1_0 : Int) (a1_1 : Int) : Option ((List (S83))) := spec_l08Put.l0 k l0 (l0.length : Int) a1_0 a1_1
theorem spec_l08Put.mono_l : ∀ k, (∀ y0 y1 y2 y3, LeO (spec_l08Put.l0 k y0 y1 y2 y3) (spec_l08Put.l0 (k + 1) y0 y1 y2 y3))
 | 0 => fun _ _ _ _ r h => by simp [spec_l08Put.l0] at h
 | k + 1 => by
  have ih0 := spec_l08Put.mono_l k
  ·intro y0 y1 y2 y3
   unfold spec_l08Put.l0
   repeat' first
   | (with_reducible exact ih0 _ _ _ _)
   | (with_reducible exact LeO.refl _)
   | (with_reducible exact LeO.none _)
   | (with_reducible refine LeO.ite ?_ ?_)
   | (with_reducible refine LeO.bind ?_ (fun _ => ?_))
   | exact ih0 _ _ _ _
   | exact LeO.none _
   | refine LeO.ite ?_ ?_
   | refine LeO.bind ?_ (fun _ => ?_)
theorem spec_l08Put.mono : ∀ a0 a1 a2 k, LeO (spec_l08Put.f k a0 a1 a2) (spec_l08Put.f (k + 1) a0 a1 a2) := by
 intro a0 a1 a2 k
 have ih0 := spec_l08Put.mono_l k
 unfold spec_l08Put.f
 repeat' first
   | (with_reducible exact ih0 _ _ _ _)
   | (with_reducible exact LeO.refl _)
   | (with_reducible exact LeO.none _)
   | (with_reducible refine LeO.ite ?_ ?_)
   | (with_reducible refine LeO.bind ?_ (fun _ => ?_))
   | exact ih0 _ _ _ _
   | exact LeO.none _
   | refine LeO.ite ?_ ?_
   | refine LeO.bind ?_ (fun _ => ?_)
def spec_l08Put.T2 : Bool × List (List Nat × List Nat) := (true, [([], []), ([0], [0]), ([1], [1]), ([2], [2]), ([2], [2]), ([2], [2]), ([5, 2], [2, 5]), ([4, 6, 2], [2, 4, 6]), ([7, 2], [2, 7]), ([3, 8, 2, 2], [2, 3, 8]), ([2, 9], [2, 9])])
def spec_l08Put.B2 : List Nat := [0, 1, 3, 7, 7, 7, 39, 119, 247, 511, 1023]
theorem spec_l08Put.tab2 : rtab .any (opsOf Try.f86 2) = spec_l08Put.T2 := by kernel_rfl
theorem spec_l08Put.bits2 : waitsOk spec_l08Put.T2.2 spec_l08Put.B2 = true := by kernel_rfl
def spec_l08Put.T4 : Bool × List (List Nat × List Nat) := (true, [([], []), ([0], [0]), ([1], [1]), ([2], [2]), ([2], [2]), ([4, 2], [2, 4]), ([3, 5, 2], [2, 3, 5]), ([6, 2], [2, 6]), ([2], [2]), ([7, 8, 2], [2, 7, 8]), ([2, 9], [2, 9])])
def spec_l08Put.B4 : List Nat := [0, 1, 3, 7, 7, 23, 63, 127, 7, 511, 1023]
theorem spec_l08Put.tab4 : rtab .any (opsOf Try.f86 4) = spec_l08Put.T4 := by kernel_rfl
theorem spec_l08Put.bits4 : waitsOk spec_l08Put.T4.2 spec_l08Put.B4 = true := by kernel_rfl
set_option maxHeartbeats 8000000 in
set_option maxRecDepth 100000 in
theorem spec_l08Put.calls (k : Nat) (P0_ : Nat → Prop) (u9000_ : Value) (l0 : List (S83)) (a1_0 : Int) (a1_1 : Int) (r : List (S83)) (w0 w : World) (hB : Below w0.heap.size w0 w) (ho0 : Kd.R k83 83 w w0.heap.size P0_ u9000_ l0) (h : spec_l08Put.f k l0 a1_0 a1_1 = some r) :
  Calls Try.prog 86 #[u9000_, .agg #[.int .i64 a1_0, .int .i64 a1_1]] w fun e w' => ∃ v0_ : Value, e = .returned (v0_) ∧ Kd.R k83 83 w' w0.heap.size (fun k_ => (P0_ k_ ∨ w.heap.size ≤ k_)) v0_ r ∧ Below w0.heap.size w0 w' ∧ Kept w w' (fun k_ => P0_ k_) := by
 have hu83 := Try.underlying83
 have HO0 := qab.mk (show Kd.R k83 83 w w0.heap.size (fun k_ => (P0_ k_ ∨ w.heap.size ≤ k_)) u9000_ l0 from Kd.qbb ho0 (fun k_ hk => (.inl hk)))
 have HK := qab.mk (Kept.refl w (fun k_ => P0_ k_))
 have HW0 := qab.mk hB.size
 have HB := qab.mk hB
 clear hB
 have H : (spec_l08Put.l0 k l0 (l0.length : Int) a1_0 a1_1) = some r := h
 clear h
 have H' := qab.mk H
 clear H
 go_enter Try.func86, Try.ntmps86
 go_wp2_with (first | ((with_reducible refine qas (N := 3) rfl ?_); refine qar ?hg (N := 3) ?hd (cs := #[.int .i64 a1_0, .int .i64 a1_1]) (t := 83) ?hr ?_; (case hd => rfl); (case hg => rfl); (case hr => first | (go_simp; done) | (go_simp; rfl)); intro gb266 hg w3 hbox hb; have n0_ := qab.mk (Kd.qav (Kd.qda (by (with_reducible repeat (first | apply Kd.qao | apply Kd.qan | apply Kd.qap)); exact HO0.out) gb266 (Nat.le_of_eq hg.symm)) hb); have n1_ := qab.mk (Kept.below (S := (fun k_ => P0_ k_)) (by repeat (first | (with_reducible first | exact HK.out | apply Kept.alloc | apply Kept.drewN | apply Kept.drew) | exact HK.out)) hb); have n2_ := qab.mk (qak (by repeat (first | (with_reducible first | exact HB.out | apply qad | apply qaa | apply qac) | exact HB.out)) hb); have n3_ := qab.mk (hbox); have n4_ := qab.mk ((by rw [hg]; exact (by first | exact HK.out.1 | exact (show Kept w _ (fun k_ => P0_ k_) from by repeat (first | (with_reducible first | exact HK.out | apply Kept.alloc | apply Kept.drewN | apply Kept.drew) | exact HK.out)).1) : w.heap.size ≤ gb266)); have n5_ := qab.mk ((by rw [hg]; exact (qal (by repeat (first | (with_reducible first | exact HB.out | apply qad | apply qaa | apply qac) | exact HB.out))) : w0.heap.size ≤ gb266)); clear HO0; clear HK; clear HB; have HO0 := n0_; have HK := n1_; have HB := n2_; have BK266 := n3_; have GW266 := n4_; have GE266 := n5_; clear n0_ n1_ n2_ n3_ n4_ n5_; clear hb hbox hg; obtain ⟨Ao4, co4, eo4⟩ := Kd.qbj HO0.out; subst eo4))
 go_loopg [5] k (fun kq v5 w' => ∃ (x5_1 : Int), v5 = .int .i64 x5_1 ∧ qab (spec_l08Put.l0 kq l0 x5_1 a1_0 a1_1 = some r) ∧ qab (kq ≤ k) ∧ qab (Kd.R k83 83 w' w0.heap.size (fun k_ => (P0_ k_ ∨ w.heap.size ≤ k_) ∧ k_ ≠ gb266) (.slice Ao4 l0.length co4) l0) ∧ qab (w'.heap[gb266]? = some (.cells #[.int .i64 a1_0, .int .i64 a1_1] 83 (0, 0))) ∧ qab (Kept w w' (fun k_ => P0_ k_)) ∧ qab (Below w0.heap.size w0 w'))
 case atStart => exact ⟨((l0.length : Int)), (by first | rfl | (simp; done) | (simp [*]; done)), H', ⟨Nat.le_refl _⟩, ⟨by (with_reducible repeat (first | apply Kd.qao | apply Kd.qan | apply Kd.qap)); exact HO0.out⟩, ⟨by (with_reducible repeat (first | refine qag ?_ _ | refine qaj ?_ | refine qaf ?_ _)); exact BK266.out⟩, ⟨by repeat (first | (with_reducible first | exact HK.out | apply Kept.alloc | apply Kept.drewN | apply Kept.drew | refine Kept.setCell ?_ (.inr GW266.out) _) | exact HK.out)⟩, ⟨by repeat (first | (with_reducible first | exact HB.out | apply qad | apply qaa | apply qac | refine qae ?_ GE266.out) | exact HB.out)⟩⟩
 case round =>
  clear H'
  try clear p2
  obtain ⟨x5_1, rfl, HA, HK1, HO_0, BK266, HK, HB⟩ := hrel
  cases gk with
  | zero => exact absurd HA.out (by simp [spec_l08Put.l0])
  | succ k1 =>
   have H := HA.out
   clear HA
   simp only [spec_l08Put.l0] at H
   by_cases c5 : x5_1 > 0
   ·rw [if_pos c5] at H
    have c5b0 : decide (0 < x5_1) = true := decide_eq_true c5
    clear c5
    obtain ⟨ji6, hji6⟩ : ∃ j_ : Int, (wrap64 (x5_1 - 1)) = j_ := ⟨_, rfl⟩
    replace H : (if 0 ≤ (ji6) then (if (ji6) < (l0.length : Int) then ((spec_l08Less.f a1_0 a1_1 ((rd_T83 l0 (ji6)).f0) ((rd_T83 l0 (ji6)).f1)).bind fun t268 => (if t268 = true then (spec_l08Put.l0 k1 l0 ji6 a1_0 a1_1) else (if (((rd_T83 l0 (ji6)).f0) == a1_0 && (((rd_T83 l0 (ji6)).f1) == a1_1)) = true then (some l0) else ((some (([] : List (S83)) : List (S83))).bind fun y270 => (if 0 ≤ x5_1 then (if x5_1 ≤ (l0.length : Int) then ((some (l0.take (x5_1 : Int).toNat : List (S83))).bind fun y273 => (if y270.length + y273.length < 8796093022208 then ((some (y270 ++ y273 : List (S83))).bind fun y277 => (if y277.length < 8796093022208 then ((some (y277 ++ [(⟨a1_0, a1_1⟩ : S83)] : List (S83))).bind fun y280 => ((some (l0.drop (x5_1 : Int).toNat : List (S83))).bind fun y283 => (if y280.length + y283.length < 8796093022208 then (some (y280 ++ y283)) else (none)))) else (none))) else (none))) else (none)) else (none)))))) else (none)) else (none)) = some r := by first | (rw [hji6] at H; exact H) | (simp only [hji6] at H ⊢; exact H)
    have hji6w : (IntKind.i64.wrap (x5_1 - 1)) = ji6 := (i64_w _).trans hji6
    by_cases c7 : 0 ≤ (ji6)
    ·rw [if_pos c7] at H
     have c7b0 : decide (0 ≤ (ji6)) = true := decide_eq_true c7
     clear c7
     by_cases c8 : (ji6) < (l0.length : Int)
     ·rw [if_pos c8] at H
      have c8b0 : decide ((ji6) < (l0.length : Int)) = true := decide_eq_true c8
      clear c8
      replace H := Option.bind_eq_some_iff.mp H
      obtain ⟨t268, A90, H⟩ := H
      try dsimp only at H
      have A9 := qab.mk A90
      clear A90
      by_cases c10 : t268 = true
      ·subst c10
       have H1 := H
       rw [if_pos rfl] at H1
       clear H
       have H := H1
       clear H1
       have H' := qab.mk H
       clear H
       try go_wp2
       have n0_ := qab.mk (Kd.qap HO_0.out)
       have n1_ := qab.mk (qaj BK266.out)
       have n2_ := qab.mk (Kept.drew HK.out)
       have n3_ := qab.mk (qac HB.out)
       clear HO_0
       clear BK266
       clear HK
       clear HB
       have HO_0 := n0_
       have BK266 := n1_
       have HK := n2_
       have HB := n3_
       clear n0_ n1_ n2_ n3_
       have p267 : 0 ≤ ((ji6) : Int) := of_decide_eq_true (by first | (with_reducible assumption) | assumption)
       have q267 : (ji6) < (l0.length : Int) := of_decide_eq_true (by first | (with_reducible assumption) | assumption)
       obtain ⟨ad267, e267, hx267_0, hx267_1⟩ := at_T83 (Kd.qau HO_0.out).2.2 (ji6) p267 q267
       cases e267
       replace p267 := eq_true p267
       replace q267 := eq_true q267
       refine qch (n := 11) (S := fun w' => w'.cell? ⟨gb266, 0, none⟩ = some (.int .i64 a1_0) ∧ w'.cell? ⟨gb266, 1, none⟩ = some (.int .i64 a1_1) ∧ w'.cell? (ad267.add (((ji6)).toNat * 2)) = some (.int .i64 ((rd_T83 l0 (ji6)).f0)) ∧ w'.cell? ⟨(ad267.add (((ji6)).toNat * 2)).block, (ad267.add (((ji6)).toNat * 2)).off + 1, none⟩ = some (.int .i64 ((rd_T83 l0 (ji6)).f1))) (ds := []) #[false, false, false, false, false, false, false, false, false, false, false] (by kernel_rfl) rfl rfl ⟨(qai BK266.out 0).trans rfl, (qai BK266.out 1).trans rfl, hx267_0, hx267_1⟩ (fun hHeld => ?_); refine qbt spec_l08Put.tab2 spec_l08Put.bits2 (fun HT_ HW_ => ?_)
       generalize wr.drew = w11 at HO_0 BK266 HK HB hx267_0 hx267_1 hHeld ⊢
       refine pure_ (i := 0) (N := some 9) (v := ?_) (a' := ?_) #[true, false, false, false, false, false, false, false, false, false, false] rfl rfl (qat HT_.out (by kernel_rfl)) (fun _ _ _ h => h) (Or.inl ⟨by rfl, ?_⟩) ?_ ?_
       rotate_left
       ·intro w'
        go_simp
        with_reducible rfl
       rotate_left
       ·simp only [Act.put, List.setIfInBounds_toArray, List.set_cons_zero, List.set_cons_succ, i64_w, i32_w]
        rfl
       refine pure_ (i := 1) (N := some 10) (v := ?_) (a' := ?_) #[true, true, false, false, false, false, false, false, false, false, false] rfl rfl (qat HT_.out (by kernel_rfl)) (fun _ _ _ h => h) (Or.inl ⟨by rfl, ?_⟩) ?_ ?_
       rotate_left
       ·intro w'
        go_simp
        with_reducible rfl
       rotate_left
       ·simp only [Act.put, List.setIfInBounds_toArray, List.set_cons_zero, List.set_cons_succ, i64_w, i32_w]
        rfl
       refine pure_ (i := 2) (N := some 11) (v := ?_) (a' := ?_) #[true, true, true, false, false, false, false, false, false, false, false] rfl rfl (qat HT_.out (by kernel_rfl)) (fun _ _ _ h => h) (Or.inl ⟨by rfl, ?_⟩) ?_ ?_
       rotate_left
       ·intro w'
        go_simp
        with_reducible rfl
       rotate_left
       ·simp only [Act.put, List.setIfInBounds_toArray, List.set_cons_zero, List.set_cons_succ, i64_w, i32_w]
        rfl
       refine pure_ (i := 4) (N := some 13) (v := ?_) (a' := ?_) #[true, true, true, false, true, false, false, false, false, false, false] rfl rfl (qat HT_.out (by kernel_rfl)) (fun _ _ _ h => h) (Or.inl ⟨by rfl, ?_⟩) ?_ ?_
       rotate_left
       ·intro w'
        go_simp
        with_reducible rfl
       rotate_left
       ·simp only [Act.put, List.setIfInBounds_toArray, List.set_cons_zero, List.set_cons_succ, i64_w, i32_w]
        rfl
       refine pure_ (i := 5) (N := some 14) (v := ?_) (a' := ?_) #[true, true, true, false, true, true, false, false, false, false, false] rfl rfl (qat HT_.out (by kernel_rfl)) (fun _ _ _ h => h) (Or.inl ⟨by rfl, ?_⟩) ?_ ?_
       rotate_left
       ·intro w'
        go_simp
        with_reducible rfl
       rotate_left
       ·simp only [Act.put, List.setIfInBounds_toArray, List.set_cons_zero, List.set_cons_succ, i64_w, i32_w]
        rfl
       refine pure_ (i := 6) (N := some 15) (v := ?_) (a' := ?_) #[true, true, true, false, true, true, true, false, false, false, false] rfl rfl (qat HT_.out (by kernel_rfl)) (fun _ _ _ h => h) (Or.inl ⟨by rfl, ?_⟩) ?_ ?_
       rotate_left
       ·intro w'
        go_simp
        with_reducible rfl
       rotate_left
       ·simp only [Act.put, List.setIfInBounds_toArray, List.set_cons_zero, List.set_cons_succ, i64_w, i32_w]
        rfl
       refine pure_ (i := 7) (N := some 16) (v := ?_) (a' := ?_) #[true, true, true, false, true, true, true, true, false, false, false] rfl rfl (qat HT_.out (by kernel_rfl)) (fun _ _ _ h => h) (Or.inl ⟨by rfl, ?_⟩) ?_ ?_
       rotate_left
       ·intro w'
        go_simp
        with_reducible rfl
       rotate_left
       ·simp only [Act.put, List.setIfInBounds_toArray, List.set_cons_zero, List.set_cons_succ, i64_w, i32_w]
        rfl
       refine take_ (i := 3) (N := some 12) (v := ?_) (a' := ?_) #[true, true, true, true, true, true, true, true, false, false, false] rfl rfl (qbp HT_.out HW_.out (by kernel_rfl)) (fun _ _ _ h => h) (Or.inl ⟨by rfl, ?_⟩) hHeld ?_ ?_
       rotate_left
       ·rintro w' ⟨s0, s1, s2, s3⟩
        go_simp
        with_reducible rfl
       rotate_left
       ·simp only [Act.put, List.setIfInBounds_toArray, List.set_cons_zero, List.set_cons_succ, i64_w, i32_w]
        rfl
       refine take_ (i := 8) (N := some 17) (v := ?_) (a' := ?_) #[true, true, true, true, true, true, true, true, true, false, false] rfl rfl (qbp HT_.out HW_.out (by kernel_rfl)) (fun _ _ _ h => h) (Or.inl ⟨by rfl, ?_⟩) hHeld ?_ ?_
       rotate_left
       ·rintro w' ⟨s0, s1, s2, s3⟩
        go_simp
        with_reducible rfl
       rotate_left
       ·simp only [Act.put, List.setIfInBounds_toArray, List.set_cons_zero, List.set_cons_succ, i64_w, i32_w]
        rfl
       refine one_ (i := 9) (N := some 18) #[true, true, true, true, true, true, true, true, true, true, false] rfl rfl (qbv HT_.out (by kernel_rfl)) (by decide) (fun K hK => ?_)
       refine goes_ Try.func134 (by kernel_rfl) rfl #[.agg #[.int .i64 a1_0, .int .i64 a1_1], .agg #[.int .i64 ((rd_T83 l0 (ji6)).f0), .int .i64 ((rd_T83 l0 (ji6)).f1)]] (by rfl) rfl rfl (by (try simp only [List.map_toArray, List.map_cons, List.map_nil]); first | done | (simp only [hji6]; rfl) | rfl | (simp only [List.length_drop, List.length_take]; rfl)) ?_
       with_reducible refine (spec_l08Less.calls a1_0 a1_1 ((rd_T83 l0 (ji6)).f0) ((rd_T83 l0 (ji6)).f1) true _ A9.out).mono ?_
       rintro e w12 ⟨rfl, hb⟩
       have HS2_ := (hb.cell (World.block_lt_of_cell? _ _ (hHeld.2.2.1))).trans (hHeld.2.2.1)
       have HS3_ := (hb.cell (World.block_lt_of_cell? _ _ (hHeld.2.2.2))).trans (hHeld.2.2.2)
       refine ⟨_, rfl, ?_⟩
       have n0_ := qab.mk (Kd.qav (by (with_reducible repeat (first | apply Kd.qao | apply Kd.qan | apply Kd.qap)); exact HO_0.out) hb)
       have n1_ := qab.mk (qam (g := gb266) (o := .cells #[.int .i64 a1_0, .int .i64 a1_1] 83 (0, 0)) (by (with_reducible repeat (first | refine qag ?_ _ | refine qaj ?_ | refine qaf ?_ _)); exact BK266.out) hb)
       have n2_ := qab.mk (Kept.below (S := (fun k_ => P0_ k_)) (by repeat (first | (with_reducible first | exact HK.out | apply Kept.alloc | apply Kept.drewN | apply Kept.drew | refine Kept.setCell ?_ (.inr GW266.out) _) | exact HK.out)) hb)
       have n3_ := qab.mk (qak (by repeat (first | (with_reducible first | exact HB.out | apply qad | apply qaa | apply qac | refine qae ?_ GE266.out) | exact HB.out)) hb)
       clear HO_0
       clear BK266
       clear HK
       clear HB
       have HO_0 := n0_
       have BK266 := n1_
       have HK := n2_
       have HB := n3_
       clear n0_ n1_ n2_ n3_
       (try clear hb)
       (try clear hb2)
       (try clear hk)
       (try clear hi)
       refine hK.out _ _ ⟨(qai BK266.out 0).trans rfl, (qai BK266.out 1).trans rfl, HS2_, HS3_⟩ (fun hHeld => ?_)
       clear hK K
       refine norm_ (a' := ?_) ?_ ?_
       rotate_left
       ·show Act.put _ (some 18) _ = _
        simp only [Act.put, List.setIfInBounds_toArray, List.set_cons_zero, List.set_cons_succ, i64_w, i32_w]
        rfl
       refine pure_ (i := 10) (N := some 19) (v := ?_) (a' := ?_) #[true, true, true, true, true, true, true, true, true, true, true] rfl rfl (qat HT_.out (by kernel_rfl)) (fun _ _ _ h => h) (Or.inl ⟨by rfl, ?_⟩) ?_ ?_
       rotate_left
       ·intro w'
        go_simp
        with_reducible rfl
       rotate_left
       ·simp only [Act.put, List.setIfInBounds_toArray, List.set_cons_zero, List.set_cons_succ, i64_w, i32_w]
        rfl
       refine done_ (qcb HT_.out (by kernel_rfl)) ?_
       try go_wp2
       go_roundg k1
       case measure => have := HK1.out; omega
       case rel => exact ⟨(ji6), (by first | rfl | (simp; done) | (simp only [← hji6] <;> (first | rfl | simp)) | (simp [*]; done)), H', ⟨by have := HK1.out; omega⟩, ⟨by (with_reducible repeat (first | apply Kd.qao | apply Kd.qan | apply Kd.qap)); exact HO_0.out⟩, ⟨by (with_reducible repeat (first | refine qag ?_ _ | refine qaj ?_ | refine qaf ?_ _)); exact BK266.out⟩, ⟨by repeat (first | (with_reducible first | exact HK.out | apply Kept.alloc | apply Kept.drewN | apply Kept.drew | refine Kept.setCell ?_ (.inr GW266.out) _) | exact HK.out)⟩, ⟨by repeat (first | (with_reducible first | exact HB.out | apply qad | apply qaa | apply qac | refine qae ?_ GE266.out) | exact HB.out)⟩⟩
      ·replace c10 := Bool.eq_false_iff.mpr c10
       subst c10
       have H1 := H
       rw [if_neg (show ¬ (false = true) by decide)] at H1
       clear H
       have H := H1
       clear H1
       by_cases c13 : (((rd_T83 l0 (ji6)).f0) == a1_0 && (((rd_T83 l0 (ji6)).f1) == a1_1)) = true
       ·rw [if_pos c13] at H
        have c13b0 : (((rd_T83 l0 (ji6)).f0) == a1_0 && (((rd_T83 l0 (ji6)).f1) == a1_1)) = true := c13
        (try (have c13b1 : decide (((rd_T83 l0 (ji6)).f0) = a1_0 && (((rd_T83 l0 (ji6)).f1) == a1_1)) = true := by simpa using c13))
        (try (have c13b2 : (((rd_T83 l0 (ji6)).f0) == a1_0 && (((rd_T83 l0 (ji6)).f1) == a1_1)) = true := by simpa using c13))
        clear c13
        obtain rfl := Option.some.inj H
        try go_wp2
        have n0_ := qab.mk (Kd.qap HO_0.out)
        have n1_ := qab.mk (qaj BK266.out)
        have n2_ := qab.mk (Kept.drew HK.out)
        have n3_ := qab.mk (qac HB.out)
        clear HO_0
        clear BK266
        clear HK
        clear HB
        have HO_0 := n0_
        have BK266 := n1_
        have HK := n2_
        have HB := n3_
        clear n0_ n1_ n2_ n3_
        have p267 : 0 ≤ ((ji6) : Int) := of_decide_eq_true (by first | (with_reducible assumption) | assumption)
        have q267 : (ji6) < (l0.length : Int) := of_decide_eq_true (by first | (with_reducible assumption) | assumption)
        obtain ⟨ad267, e267, hx267_0, hx267_1⟩ := at_T83 (Kd.qau HO_0.out).2.2 (ji6) p267 q267
        cases e267
        replace p267 := eq_true p267
        replace q267 := eq_true q267
        refine qch (n := 11) (S := fun w' => w'.cell? ⟨gb266, 0, none⟩ = some (.int .i64 a1_0) ∧ w'.cell? ⟨gb266, 1, none⟩ = some (.int .i64 a1_1) ∧ w'.cell? (ad267.add (((ji6)).toNat * 2)) = some (.int .i64 ((rd_T83 l0 (ji6)).f0)) ∧ w'.cell? ⟨(ad267.add (((ji6)).toNat * 2)).block, (ad267.add (((ji6)).toNat * 2)).off + 1, none⟩ = some (.int .i64 ((rd_T83 l0 (ji6)).f1))) (ds := []) #[false, false, false, false, false, false, false, false, false, false, false] (by kernel_rfl) rfl rfl ⟨(qai BK266.out 0).trans rfl, (qai BK266.out 1).trans rfl, hx267_0, hx267_1⟩ (fun hHeld => ?_); refine qbt spec_l08Put.tab2 spec_l08Put.bits2 (fun HT_ HW_ => ?_)
        generalize wr.drew = w14 at HO_0 BK266 HK HB hx267_0 hx267_1 hHeld ⊢
        refine pure_ (i := 0) (N := some 9) (v := ?_) (a' := ?_) #[true, false, false, false, false, false, false, false, false, false, false] rfl rfl (qat HT_.out (by kernel_rfl)) (fun _ _ _ h => h) (Or.inl ⟨by rfl, ?_⟩) ?_ ?_
        rotate_left
        ·intro w'
         go_simp
         with_reducible rfl
        rotate_left
        ·simp only [Act.put, List.setIfInBounds_toArray, List.set_cons_zero, List.set_cons_succ, i64_w, i32_w]
         rfl
        refine pure_ (i := 1) (N := some 10) (v := ?_) (a' := ?_) #[true, true, false, false, false, false, false, false, false, false, false] rfl rfl (qat HT_.out (by kernel_rfl)) (fun _ _ _ h => h) (Or.inl ⟨by rfl, ?_⟩) ?_ ?_
        rotate_left
        ·intro w'
         go_simp
         with_reducible rfl
        rotate_left
        ·simp only [Act.put, List.setIfInBounds_toArray, List.set_cons_zero, List.set_cons_succ, i64_w, i32_w]
         rfl
        refine pure_ (i := 2) (N := some 11) (v := ?_) (a' := ?_) #[true, true, true, false, false, false, false, false, false, false, false] rfl rfl (qat HT_.out (by kernel_rfl)) (fun _ _ _ h => h) (Or.inl ⟨by rfl, ?_⟩) ?_ ?_
        rotate_left
        ·intro w'
         go_simp
         with_reducible rfl
        rotate_left
        ·simp only [Act.put, List.setIfInBounds_toArray, List.set_cons_zero, List.set_cons_succ, i64_w, i32_w]
         rfl
        refine pure_ (i := 4) (N := some 13) (v := ?_) (a' := ?_) #[true, true, true, false, true, false, false, false, false, false, false] rfl rfl (qat HT_.out (by kernel_rfl)) (fun _ _ _ h => h) (Or.inl ⟨by rfl, ?_⟩) ?_ ?_
        rotate_left
        ·intro w'
         go_simp
         with_reducible rfl
        rotate_left
        ·simp only [Act.put, List.setIfInBounds_toArray, List.set_cons_zero, List.set_cons_succ, i64_w, i32_w]
         rfl
        refine pure_ (i := 5) (N := some 14) (v := ?_) (a' := ?_) #[true, true, true, false, true, true, false, false, false, false, false] rfl rfl (qat HT_.out (by kernel_rfl)) (fun _ _ _ h => h) (Or.inl ⟨by rfl, ?_⟩) ?_ ?_
        rotate_left
        ·intro w'
         go_simp
         with_reducible rfl
        rotate_left
        ·simp only [Act.put, List.setIfInBounds_toArray, List.set_cons_zero, List.set_cons_succ, i64_w, i32_w]
         rfl
        refine pure_ (i := 6) (N := some 15) (v := ?_) (a' := ?_) #[true, true, true, false, true, true, true, false, false, false, false] rfl rfl (qat HT_.out (by kernel_rfl)) (fun _ _ _ h => h) (Or.inl ⟨by rfl, ?_⟩) ?_ ?_
        rotate_left
        ·intro w'
         go_simp
         with_reducible rfl
        rotate_left
        ·simp only [Act.put, List.setIfInBounds_toArray, List.set_cons_zero, List.set_cons_succ, i64_w, i32_w]
         rfl
        refine pure_ (i := 7) (N := some 16) (v := ?_) (a' := ?_) #[true, true, true, false, true, true, true, true, false, false, false] rfl rfl (qat HT_.out (by kernel_rfl)) (fun _ _ _ h => h) (Or.inl ⟨by rfl, ?_⟩) ?_ ?_
        rotate_left
        ·intro w'
         go_simp
         with_reducible rfl
        rotate_left
        ·simp only [Act.put, List.setIfInBounds_toArray, List.set_cons_zero, List.set_cons_succ, i64_w, i32_w]
         rfl
        refine take_ (i := 3) (N := some 12) (v := ?_) (a' := ?_) #[true, true, true, true, true, true, true, true, false, false, false] rfl rfl (qbp HT_.out HW_.out (by kernel_rfl)) (fun _ _ _ h => h) (Or.inl ⟨by rfl, ?_⟩) hHeld ?_ ?_
        rotate_left
        ·rintro w' ⟨s0, s1, s2, s3⟩
         go_simp
         with_reducible rfl
        rotate_left
        ·simp only [Act.put, List.setIfInBounds_toArray, List.set_cons_zero, List.set_cons_succ, i64_w, i32_w]
         rfl
        refine take_ (i := 8) (N := some 17) (v := ?_) (a' := ?_) #[true, true, true, true, true, true, true, true, true, false, false] rfl rfl (qbp HT_.out HW_.out (by kernel_rfl)) (fun _ _ _ h => h) (Or.inl ⟨by rfl, ?_⟩) hHeld ?_ ?_
        rotate_left
        ·rintro w' ⟨s0, s1, s2, s3⟩
         go_simp
         with_reducible rfl
        rotate_left
        ·simp only [Act.put, List.setIfInBounds_toArray, List.set_cons_zero, List.set_cons_succ, i64_w, i32_w]
         rfl
        refine one_ (i := 9) (N := some 18) #[true, true, true, true, true, true, true, true, true, true, false] rfl rfl (qbv HT_.out (by kernel_rfl)) (by decide) (fun K hK => ?_)
        refine goes_ Try.func134 (by kernel_rfl) rfl #[.agg #[.int .i64 a1_0, .int .i64 a1_1], .agg #[.int .i64 ((rd_T83 l0 (ji6)).f0), .int .i64 ((rd_T83 l0 (ji6)).f1)]] (by rfl) rfl rfl (by (try simp only [List.map_toArray, List.map_cons, List.map_nil]); first | done | (simp only [hji6]; rfl) | rfl | (simp only [List.length_drop, List.length_take]; rfl)) ?_
        with_reducible refine (spec_l08Less.calls a1_0 a1_1 ((rd_T83 l0 (ji6)).f0) ((rd_T83 l0 (ji6)).f1) false _ A9.out).mono ?_
        rintro e w15 ⟨rfl, hb⟩
        have HS2_ := (hb.cell (World.block_lt_of_cell? _ _ (hHeld.2.2.1))).trans (hHeld.2.2.1)
        have HS3_ := (hb.cell (World.block_lt_of_cell? _ _ (hHeld.2.2.2))).trans (hHeld.2.2.2)
        refine ⟨_, rfl, ?_⟩
        have n0_ := qab.mk (Kd.qav (by (with_reducible repeat (first | apply Kd.qao | apply Kd.qan | apply Kd.qap)); exact HO_0.out) hb)
        have n1_ := qab.mk (qam (g := gb266) (o := .cells #[.int .i64 a1_0, .int .i64 a1_1] 83 (0, 0)) (by (with_reducible repeat (first | refine qag ?_ _ | refine qaj ?_ | refine qaf ?_ _)); exact BK266.out) hb)
        have n2_ := qab.mk (Kept.below (S := (fun k_ => P0_ k_)) (by repeat (first | (with_reducible first | exact HK.out | apply Kept.alloc | apply Kept.drewN | apply Kept.drew | refine Kept.setCell ?_ (.inr GW266.out) _) | exact HK.out)) hb)
        have n3_ := qab.mk (qak (by repeat (first | (with_reducible first | exact HB.out | apply qad | apply qaa | apply qac | refine qae ?_ GE266.out) | exact HB.out)) hb)
        clear HO_0
        clear BK266
        clear HK
        clear HB
        have HO_0 := n0_
        have BK266 := n1_
        have HK := n2_
        have HB := n3_
        clear n0_ n1_ n2_ n3_
        (try clear hb)
        (try clear hb2)
        (try clear hk)
        (try clear hi)
        refine hK.out _ _ ⟨(qai BK266.out 0).trans rfl, (qai BK266.out 1).trans rfl, HS2_, HS3_⟩ (fun hHeld => ?_)
        clear hK K
        refine norm_ (a' := ?_) ?_ ?_
        rotate_left
        ·show Act.put _ (some 18) _ = _
         simp only [Act.put, List.setIfInBounds_toArray, List.set_cons_zero, List.set_cons_succ, i64_w, i32_w]
         rfl
        refine pure_ (i := 10) (N := some 19) (v := ?_) (a' := ?_) #[true, true, true, true, true, true, true, true, true, true, true] rfl rfl (qat HT_.out (by kernel_rfl)) (fun _ _ _ h => h) (Or.inl ⟨by rfl, ?_⟩) ?_ ?_
        rotate_left
        ·intro w'
         go_simp
         with_reducible rfl
        rotate_left
        ·simp only [Act.put, List.setIfInBounds_toArray, List.set_cons_zero, List.set_cons_succ, i64_w, i32_w]
         rfl
        refine done_ (qcb HT_.out (by kernel_rfl)) ?_
        try go_wp2
        have n0_ := qab.mk (Kd.qap HO_0.out)
        have n1_ := qab.mk (qaj BK266.out)
        have n2_ := qab.mk (Kept.drew HK.out)
        have n3_ := qab.mk (qac HB.out)
        clear HO_0
        clear BK266
        clear HK
        clear HB
        have HO_0 := n0_
        have BK266 := n1_
        have HK := n2_
        have HB := n3_
        clear n0_ n1_ n2_ n3_
        have p269 : 0 ≤ ((ji6) : Int) := of_decide_eq_true (by first | (with_reducible assumption) | assumption)
        have q269 : (ji6) < (l0.length : Int) := of_decide_eq_true (by first | (with_reducible assumption) | assumption)
        obtain ⟨ad269, e269, hx269_0, hx269_1⟩ := at_T83 (Kd.qau HO_0.out).2.2 (ji6) p269 q269
        obtain rfl : ad267 = ad269 := (by injection e269)
        replace p269 := eq_true p269
        replace q269 := eq_true q269
        refine qch (n := 11) (S := fun w' => w'.cell? ⟨gb266, 0, none⟩ = some (.int .i64 a1_0) ∧ w'.cell? ⟨gb266, 1, none⟩ = some (.int .i64 a1_1) ∧ w'.cell? (ad267.add (((ji6)).toNat * 2)) = some (.int .i64 ((rd_T83 l0 (ji6)).f0)) ∧ w'.cell? ⟨(ad267.add (((ji6)).toNat * 2)).block, (ad267.add (((ji6)).toNat * 2)).off + 1, none⟩ = some (.int .i64 ((rd_T83 l0 (ji6)).f1))) (ds := []) #[false, false, false, false, false, false, false, false, false, false, false] (by kernel_rfl) rfl rfl ⟨(qai BK266.out 0).trans rfl, (qai BK266.out 1).trans rfl, hx269_0, hx269_1⟩ (fun hHeld => ?_); refine qbt spec_l08Put.tab4 spec_l08Put.bits4 (fun HT_ HW_ => ?_)
        generalize w15.drew = w16 at HO_0 BK266 HK HB hx269_0 hx269_1 hHeld ⊢
        refine pure_ (i := 0) (N := some 22) (v := ?_) (a' := ?_) #[true, false, false, false, false, false, false, false, false, false, false] rfl rfl (qat HT_.out (by kernel_rfl)) (fun _ _ _ h => h) (Or.inl ⟨by rfl, ?_⟩) ?_ ?_
        rotate_left
        ·intro w'
         go_simp
         with_reducible rfl
        rotate_left
        ·simp only [Act.put, List.setIfInBounds_toArray, List.set_cons_zero, List.set_cons_succ, i64_w, i32_w]
         rfl
        refine pure_ (i := 1) (N := some 23) (v := ?_) (a' := ?_) #[true, true, false, false, false, false, false, false, false, false, false] rfl rfl (qat HT_.out (by kernel_rfl)) (fun _ _ _ h => h) (Or.inl ⟨by rfl, ?_⟩) ?_ ?_
        rotate_left
        ·intro w'
         go_simp
         with_reducible rfl
        rotate_left
        ·simp only [Act.put, List.setIfInBounds_toArray, List.set_cons_zero, List.set_cons_succ, i64_w, i32_w]
         rfl
        refine pure_ (i := 2) (N := some 24) (v := ?_) (a' := ?_) #[true, true, true, false, false, false, false, false, false, false, false] rfl rfl (qat HT_.out (by kernel_rfl)) (fun _ _ _ h => h) (Or.inl ⟨by rfl, ?_⟩) ?_ ?_
        rotate_left
        ·intro w'
         go_simp
         with_reducible rfl
        rotate_left
        ·simp only [Act.put, List.setIfInBounds_toArray, List.set_cons_zero, List.set_cons_succ, i64_w, i32_w]
         rfl
        refine pure_ (i := 3) (N := some 25) (v := ?_) (a' := ?_) #[true, true, true, true, false, false, false, false, false, false, false] rfl rfl (qat HT_.out (by kernel_rfl)) (fun _ _ _ h => h) (Or.inl ⟨by rfl, ?_⟩) ?_ ?_
        rotate_left
        ·intro w'
         go_simp
         with_reducible rfl
        rotate_left
        ·simp only [Act.put, List.setIfInBounds_toArray, List.set_cons_zero, List.set_cons_succ, i64_w, i32_w]
         rfl
        refine pure_ (i := 4) (N := some 26) (v := ?_) (a' := ?_) #[true, true, true, true, true, false, false, false, false, false, false] rfl rfl (qat HT_.out (by kernel_rfl)) (fun _ _ _ h => h) (Or.inl ⟨by rfl, ?_⟩) ?_ ?_
        rotate_left
        ·intro w'
         go_simp
         with_reducible rfl
        rotate_left
        ·simp only [Act.put, List.setIfInBounds_toArray, List.set_cons_zero, List.set_cons_succ, i64_w, i32_w]
         rfl
        refine pure_ (i := 5) (N := some 27) (v := ?_) (a' := ?_) #[true, true, true, true, true, true, false, false, false, false, false] rfl rfl (qat HT_.out (by kernel_rfl)) (fun _ _ _ h => h) (Or.inl ⟨by rfl, ?_⟩) ?_ ?_
        rotate_left
        ·intro w'
         go_simp
         with_reducible rfl
        rotate_left
        ·simp only [Act.put, List.setIfInBounds_toArray, List.set_cons_zero, List.set_cons_succ, i64_w, i32_w]
         rfl
        refine pure_ (i := 6) (N := some 28) (v := ?_) (a' := ?_) #[true, true, true, true, true, true, true, false, false, false, false] rfl rfl (qat HT_.out (by kernel_rfl)) (fun _ _ _ h => h) (Or.inl ⟨by rfl, ?_⟩) ?_ ?_
        rotate_left
        ·intro w'
         go_simp
         with_reducible rfl
        rotate_left
        ·simp only [Act.put, List.setIfInBounds_toArray, List.set_cons_zero, List.set_cons_succ, i64_w, i32_w]
         rfl
        refine take_ (i := 7) (N := some 29) (v := ?_) (a' := ?_) #[true, true, true, true, true, true, true, true, false, false, false] rfl rfl (qbp HT_.out HW_.out (by kernel_rfl)) (fun _ _ _ h => h) (Or.inl ⟨by rfl, ?_⟩) hHeld ?_ ?_
        rotate_left
        ·rintro w' ⟨s0, s1, s2, s3⟩
         go_simp
         with_reducible rfl
        rotate_left
        ·simp only [Act.put, List.setIfInBounds_toArray, List.set_cons_zero, List.set_cons_succ, i64_w, i32_w]
         rfl
        refine take_ (i := 8) (N := some 30) (v := ?_) (a' := ?_) #[true, true, true, true, true, true, true, true, true, false, false] rfl rfl (qbp HT_.out HW_.out (by kernel_rfl)) (fun _ _ _ h => h) (Or.inl ⟨by rfl, ?_⟩) hHeld ?_ ?_
        rotate_left
        ·rintro w' ⟨s0, s1, s2, s3⟩
         go_simp
         with_reducible rfl
        rotate_left
        ·simp only [Act.put, List.setIfInBounds_toArray, List.set_cons_zero, List.set_cons_succ, i64_w, i32_w]
         rfl
        refine pure_ (i := 9) (N := some 31) (v := ?_) (a' := ?_) #[true, true, true, true, true, true, true, true, true, true, false] rfl rfl (qat HT_.out (by kernel_rfl)) (fun _ _ _ h => h) (Or.inl ⟨by rfl, ?_⟩) ?_ ?_
        rotate_left
        ·intro w'
         go_simp
         with_reducible rfl
        rotate_left
        ·simp only [Act.put, List.setIfInBounds_toArray, List.set_cons_zero, List.set_cons_succ, i64_w, i32_w]
         rfl
        refine pure_ (i := 10) (N := some 32) (v := ?_) (a' := ?_) #[true, true, true, true, true, true, true, true, true, true, true] rfl rfl (qat HT_.out (by kernel_rfl)) (fun _ _ _ h => h) (Or.inl ⟨by rfl, ?_⟩) ?_ ?_
        rotate_left
        ·intro w'
         go_simp
         with_reducible rfl
        rotate_left
        ·simp only [Act.put, List.setIfInBounds_toArray, List.set_cons_zero, List.set_cons_succ, i64_w, i32_w]
         rfl
        refine done_ (qcb HT_.out (by kernel_rfl)) ?_
        try go_wp2
        go_ret
        exact ⟨_, by first | rfl | (simp [errW_none, errW_some] <;> rfl) | (simp only [← hji6]; first | rfl | (simp [errW_none, errW_some] <;> rfl)) | (simp [*, errW_none, errW_some] <;> rfl), by (with_reducible repeat (first | apply Kd.qao | apply Kd.qan | apply Kd.qap)); exact Kd.qbb HO_0.out (fun _ hk => hk.1), by repeat (first | (with_reducible first | exact HB.out | apply qad | apply qaa | apply qac | refine qae ?_ GE266.out) | exact HB.out), by repeat (first | (with_reducible first | exact HK.out | apply Kept.alloc | apply Kept.drewN | apply Kept.drew | refine Kept.setCell ?_ (.inr GW266.out) _) | exact HK.out)⟩
       ·rw [if_neg c13] at H
        have c13b0 : (((rd_T83 l0 (ji6)).f0) == a1_0 && (((rd_T83 l0 (ji6)).f1) == a1_1)) = false := by simpa using c13
        (try (have c13b1 : decide (((rd_T83 l0 (ji6)).f0) = a1_0 && (((rd_T83 l0 (ji6)).f1) == a1_1)) = false := by simpa using c13))
        (try (have c13b2 : (((rd_T83 l0 (ji6)).f0) == a1_0 && (((rd_T83 l0 (ji6)).f1) == a1_1)) = false := by simpa using c13))
        (try (have c13b3 : ¬ (((rd_T83 l0 (ji6)).f0) = a1_0 && (((rd_T83 l0 (ji6)).f1) == a1_1)) := by simpa using c13))
        clear c13
        obtain ⟨y270, hy270⟩ : ∃ y_ : List (S83), y_ = (([] : List (S83))) := ⟨_, rfl⟩
        replace H : (if 0 ≤ x5_1 then (if x5_1 ≤ (l0.length : Int) then ((some (l0.take (x5_1 : Int).toNat : List (S83))).bind fun y273 => (if y270.length + y273.length < 8796093022208 then ((some (y270 ++ y273 : List (S83))).bind fun y277 => (if y277.length < 8796093022208 then ((some (y277 ++ [(⟨a1_0, a1_1⟩ : S83)] : List (S83))).bind fun y280 => ((some (l0.drop (x5_1 : Int).toNat : List (S83))).bind fun y283 => (if y280.length + y283.length < 8796093022208 then (some (y280 ++ y283)) else (none)))) else (none))) else (none))) else (none)) else (none)) = some r := by first | (rw [hy270]; with_reducible exact H) | (have H2_ := (Option.bind_some _ _).symm.trans H; rw [hy270]; with_reducible exact H2_) | (have H2_ := (Option.bind_some _ _).symm.trans H; with_reducible exact H2_) | with_reducible exact H | (rw [hy270]; exact H) | exact H
        have Ny270 := qab.mk hy270
        clear hy270
        by_cases c17 : 0 ≤ x5_1
        ·rw [if_pos c17] at H
         have c17b0 := eq_true c17
         have c17b1 : decide (0 ≤ x5_1) = true := decide_eq_true c17
         clear c17
         by_cases c18 : x5_1 ≤ (l0.length : Int)
         ·rw [if_pos c18] at H
          have c18b0 := eq_true c18
          have c18b1 : decide (x5_1 ≤ (l0.length : Int)) = true := decide_eq_true c18
          clear c18
          obtain ⟨y273, hy273⟩ : ∃ y_ : List (S83), y_ = (l0.take (x5_1 : Int).toNat) := ⟨_, rfl⟩
          replace H : (if y270.length + y273.length < 8796093022208 then ((some (y270 ++ y273 : List (S83))).bind fun y277 => (if y277.length < 8796093022208 then ((some (y277 ++ [(⟨a1_0, a1_1⟩ : S83)] : List (S83))).bind fun y280 => ((some (l0.drop (x5_1 : Int).toNat : List (S83))).bind fun y283 => (if y280.length + y283.length < 8796093022208 then (some (y280 ++ y283)) else (none)))) else (none))) else (none)) = some r := by first | (rw [hy273]; with_reducible exact H) | (have H2_ := (Option.bind_some _ _).symm.trans H; rw [hy273]; with_reducible exact H2_) | (have H2_ := (Option.bind_some _ _).symm.trans H; with_reducible exact H2_) | with_reducible exact H | (rw [hy273]; exact H) | exact H
          have Ny273 := qab.mk hy273
          clear hy273
          by_cases c19 : y270.length + y273.length < 8796093022208
          ·rw [if_pos c19] at H
           have LMc19 := qab.mk c19
           clear c19
           obtain ⟨y277, hy277⟩ : ∃ y_ : List (S83), y_ = (y270 ++ y273) := ⟨_, rfl⟩
           replace H : (if y277.length < 8796093022208 then ((some (y277 ++ [(⟨a1_0, a1_1⟩ : S83)] : List (S83))).bind fun y280 => ((some (l0.drop (x5_1 : Int).toNat : List (S83))).bind fun y283 => (if y280.length + y283.length < 8796093022208 then (some (y280 ++ y283)) else (none)))) else (none)) = some r := by first | (rw [hy277]; with_reducible exact H) | (have H2_ := (Option.bind_some _ _).symm.trans H; rw [hy277]; with_reducible exact H2_) | (have H2_ := (Option.bind_some _ _).symm.trans H; with_reducible exact H2_) | with_reducible exact H | (rw [hy277]; exact H) | exact H
           have Ny277 := qab.mk hy277
           clear hy277
           by_cases c20 : y277.length < 8796093022208
           ·rw [if_pos c20] at H
            have LMc20 := qab.mk c20
            clear c20
            obtain ⟨y280, hy280⟩ : ∃ y_ : List (S83), y_ = (y277 ++ [(⟨a1_0, a1_1⟩ : S83)]) := ⟨_, rfl⟩
            replace H : ((some (l0.drop (x5_1 : Int).toNat : List (S83))).bind fun y283 => (if y280.length + y283.length < 8796093022208 then (some (y280 ++ y283)) else (none))) = some r := by first | (rw [hy280]; with_reducible exact H) | (have H2_ := (Option.bind_some _ _).symm.trans H; rw [hy280]; with_reducible exact H2_) | (have H2_ := (Option.bind_some _ _).symm.trans H; with_reducible exact H2_) | with_reducible exact H | (rw [hy280]; exact H) | exact H
            have Ny280 := qab.mk hy280
            clear hy280
            have c21b0 := eq_true (of_decide_eq_true (by first | (with_reducible assumption) | assumption) : 0 ≤ x5_1)
            have c22b0 := eq_true (of_decide_eq_true (by first | (with_reducible assumption) | assumption) : x5_1 ≤ (l0.length : Int))
            obtain ⟨y283, hy283⟩ : ∃ y_ : List (S83), y_ = (l0.drop (x5_1 : Int).toNat) := ⟨_, rfl⟩
            replace H : (if y280.length + y283.length < 8796093022208 then (some (y280 ++ y283)) else (none)) = some r := by first | (rw [hy283]; with_reducible exact H) | (have H2_ := (Option.bind_some _ _).symm.trans H; rw [hy283]; with_reducible exact H2_) | (have H2_ := (Option.bind_some _ _).symm.trans H; with_reducible exact H2_) | with_reducible exact H | (rw [hy283]; exact H) | exact H
            have Ny283 := qab.mk hy283
            clear hy283
            by_cases c23 : y280.length + y283.length < 8796093022208
            ·rw [if_pos c23] at H
             have LMc23 := qab.mk c23
             clear c23
             obtain ⟨y287, hy287⟩ : ∃ y_ : List (S83), y_ = (y280 ++ y283) := ⟨_, rfl⟩
             replace H : (some y287) = some r := by first | (rw [hy287]; with_reducible exact H) | (have H2_ := (Option.bind_some _ _).symm.trans H; rw [hy287]; with_reducible exact H2_) | (have H2_ := (Option.bind_some _ _).symm.trans H; with_reducible exact H2_) | with_reducible exact H | (rw [hy287]; exact H) | exact H
             have Ny287 := qab.mk hy287
             clear hy287
             obtain rfl := Option.some.inj H
             try go_wp2
             have n0_ := qab.mk (Kd.qap HO_0.out)
             have n1_ := qab.mk (qaj BK266.out)
             have n2_ := qab.mk (Kept.drew HK.out)
             have n3_ := qab.mk (qac HB.out)
             clear HO_0
             clear BK266
             clear HK
             clear HB
             have HO_0 := n0_
             have BK266 := n1_
             have HK := n2_
             have HB := n3_
             clear n0_ n1_ n2_ n3_
             have p267 : 0 ≤ ((ji6) : Int) := of_decide_eq_true (by first | (with_reducible assumption) | assumption)
             have q267 : (ji6) < (l0.length : Int) := of_decide_eq_true (by first | (with_reducible assumption) | assumption)
             obtain ⟨ad267, e267, hx267_0, hx267_1⟩ := at_T83 (Kd.qau HO_0.out).2.2 (ji6) p267 q267
             cases e267
             replace p267 := eq_true p267
             replace q267 := eq_true q267
             refine qch (n := 11) (S := fun w' => w'.cell? ⟨gb266, 0, none⟩ = some (.int .i64 a1_0) ∧ w'.cell? ⟨gb266, 1, none⟩ = some (.int .i64 a1_1) ∧ w'.cell? (ad267.add (((ji6)).toNat * 2)) = some (.int .i64 ((rd_T83 l0 (ji6)).f0)) ∧ w'.cell? ⟨(ad267.add (((ji6)).toNat * 2)).block, (ad267.add (((ji6)).toNat * 2)).off + 1, none⟩ = some (.int .i64 ((rd_T83 l0 (ji6)).f1))) (ds := []) #[false, false, false, false, false, false, false, false, false, false, false] (by kernel_rfl) rfl rfl ⟨(qai BK266.out 0).trans rfl, (qai BK266.out 1).trans rfl, hx267_0, hx267_1⟩ (fun hHeld => ?_); refine qbt spec_l08Put.tab2 spec_l08Put.bits2 (fun HT_ HW_ => ?_)
             generalize wr.drew = w24 at HO_0 BK266 HK HB hx267_0 hx267_1 hHeld ⊢
             refine pure_ (i := 0) (N := some 9) (v := ?_) (a' := ?_) #[true, false, false, false, false, false, false, false, false, false, false] rfl rfl (qat HT_.out (by kernel_rfl)) (fun _ _ _ h => h) (Or.inl ⟨by rfl, ?_⟩) ?_ ?_
             rotate_left
             ·intro w'
              go_simp
              with_reducible rfl
             rotate_left
             ·simp only [Act.put, List.setIfInBounds_toArray, List.set_cons_zero, List.set_cons_succ, i64_w, i32_w]
              rfl
             refine pure_ (i := 1) (N := some 10) (v := ?_) (a' := ?_) #[true, true, false, false, false, false, false, false, false, false, false] rfl rfl (qat HT_.out (by kernel_rfl)) (fun _ _ _ h => h) (Or.inl ⟨by rfl, ?_⟩) ?_ ?_
             rotate_left
             ·intro w'
              go_simp
              with_reducible rfl
             rotate_left
             ·simp only [Act.put, List.setIfInBounds_toArray, List.set_cons_zero, List.set_cons_succ, i64_w, i32_w]
              rfl
             refine pure_ (i := 2) (N := some 11) (v := ?_) (a' := ?_) #[true, true, true, false, false, false, false, false, false, false, false] rfl rfl (qat HT_.out (by kernel_rfl)) (fun _ _ _ h => h) (Or.inl ⟨by rfl, ?_⟩) ?_ ?_
             rotate_left
             ·intro w'
              go_simp
              with_reducible rfl
             rotate_left
             ·simp only [Act.put, List.setIfInBounds_toArray, List.set_cons_zero, List.set_cons_succ, i64_w, i32_w]
              rfl
             refine pure_ (i := 4) (N := some 13) (v := ?_) (a' := ?_) #[true, true, true, false, true, false, false, false, false, false, false] rfl rfl (qat HT_.out (by kernel_rfl)) (fun _ _ _ h => h) (Or.inl ⟨by rfl, ?_⟩) ?_ ?_
             rotate_left
             ·intro w'
              go_simp
              with_reducible rfl
             rotate_left
             ·simp only [Act.put, List.setIfInBounds_toArray, List.set_cons_zero, List.set_cons_succ, i64_w, i32_w]
              rfl
             refine pure_ (i := 5) (N := some 14) (v := ?_) (a' := ?_) #[true, true, true, false, true, true, false, false, false, false, false] rfl rfl (qat HT_.out (by kernel_rfl)) (fun _ _ _ h => h) (Or.inl ⟨by rfl, ?_⟩) ?_ ?_
             rotate_left
             ·intro w'
              go_simp
              with_reducible rfl
             rotate_left
             ·simp only [Act.put, List.setIfInBounds_toArray, List.set_cons_zero, List.set_cons_succ, i64_w, i32_w]
              rfl
             refine pure_ (i := 6) (N := some 15) (v := ?_) (a' := ?_) #[true, true, true, false, true, true, true, false, false, false, false] rfl rfl (qat HT_.out (by kernel_rfl)) (fun _ _ _ h => h) (Or.inl ⟨by rfl, ?_⟩) ?_ ?_
             rotate_left
             ·intro w'
              go_simp
              with_reducible rfl
             rotate_left
             ·simp only [Act.put, List.setIfInBounds_toArray, List.set_cons_zero, List.set_cons_succ, i64_w, i32_w]
              rfl
             refine pure_ (i := 7) (N := some 16) (v := ?_) (a' := ?_) #[true, true, true, false, true, true, true, true, false, false, false] rfl rfl (qat HT_.out (by kernel_rfl)) (fun _ _ _ h => h) (Or.inl ⟨by rfl, ?_⟩) ?_ ?_
             rotate_left
             ·intro w'
              go_simp
              with_reducible rfl
             rotate_left
             ·simp only [Act.put, List.setIfInBounds_toArray, List.set_cons_zero, List.set_cons_succ, i64_w, i32_w]
              rfl
             refine take_ (i := 3) (N := some 12) (v := ?_) (a' := ?_) #[true, true, true, true, true, true, true, true, false, false, false] rfl rfl (qbp HT_.out HW_.out (by kernel_rfl)) (fun _ _ _ h => h) (Or.inl ⟨by rfl, ?_⟩) hHeld ?_ ?_
             rotate_left
             ·rintro w' ⟨s0, s1, s2, s3⟩
              go_simp
              with_reducible rfl
             rotate_left
             ·simp only [Act.put, List.setIfInBounds_toArray, List.set_cons_zero, List.set_cons_succ, i64_w, i32_w]
              rfl
             refine take_ (i := 8) (N := some 17) (v := ?_) (a' := ?_) #[true, true, true, true, true, true, true, true, true, false, false] rfl rfl (qbp HT_.out HW_.out (by kernel_rfl)) (fun _ _ _ h => h) (Or.inl ⟨by rfl, ?_⟩) hHeld ?_ ?_
             rotate_left
             ·rintro w' ⟨s0, s1, s2, s3⟩
              go_simp
              with_reducible rfl
             rotate_left
             ·simp only [Act.put, List.setIfInBounds_toArray, List.set_cons_zero, List.set_cons_succ, i64_w, i32_w]
              rfl
             refine one_ (i := 9) (N := some 18) #[true, true, true, true, true, true, true, true, true, true, false] rfl rfl (qbv HT_.out (by kernel_rfl)) (by decide) (fun K hK => ?_)
             refine goes_ Try.func134 (by kernel_rfl) rfl #[.agg #[.int .i64 a1_0, .int .i64 a1_1], .agg #[.int .i64 ((rd_T83 l0 (ji6)).f0), .int .i64 ((rd_T83 l0 (ji6)).f1)]] (by rfl) rfl rfl (by (try simp only [List.map_toArray, List.map_cons, List.map_nil]); first | done | (simp only [hji6]; rfl) | rfl | (simp only [List.length_drop, List.length_take]; rfl)) ?_
             with_reducible refine (spec_l08Less.calls a1_0 a1_1 ((rd_T83 l0 (ji6)).f0) ((rd_T83 l0 (ji6)).f1) false _ A9.out).mono ?_
             rintro e w25 ⟨rfl, hb⟩
             have HS2_ := (hb.cell (World.block_lt_of_cell? _ _ (hHeld.2.2.1))).trans (hHeld.2.2.1)
             have HS3_ := (hb.cell (World.block_lt_of_cell? _ _ (hHeld.2.2.2))).trans (hHeld.2.2.2)
             refine ⟨_, rfl, ?_⟩
             have n0_ := qab.mk (Kd.qav (by (with_reducible repeat (first | apply Kd.qao | apply Kd.qan | apply Kd.qap)); exact HO_0.out) hb)
             have n1_ := qab.mk (qam (g := gb266) (o := .cells #[.int .i64 a1_0, .int .i64 a1_1] 83 (0, 0)) (by (with_reducible repeat (first | refine qag ?_ _ | refine qaj ?_ | refine qaf ?_ _)); exact BK266.out) hb)
             have n2_ := qab.mk (Kept.below (S := (fun k_ => P0_ k_)) (by repeat (first | (with_reducible first | exact HK.out | apply Kept.alloc | apply Kept.drewN | apply Kept.drew | refine Kept.setCell ?_ (.inr GW266.out) _) | exact HK.out)) hb)
             have n3_ := qab.mk (qak (by repeat (first | (with_reducible first | exact HB.out | apply qad | apply qaa | apply qac | refine qae ?_ GE266.out) | exact HB.out)) hb)
             clear HO_0
             clear BK266
             clear HK
             clear HB
             have HO_0 := n0_
             have BK266 := n1_
             have HK := n2_
             have HB := n3_
             clear n0_ n1_ n2_ n3_
             (try clear hb)
             (try clear hb2)
             (try clear hk)
             (try clear hi)
             refine hK.out _ _ ⟨(qai BK266.out 0).trans rfl, (qai BK266.out 1).trans rfl, HS2_, HS3_⟩ (fun hHeld => ?_)
             clear hK K
             refine norm_ (a' := ?_) ?_ ?_
             rotate_left
             ·show Act.put _ (some 18) _ = _
              simp only [Act.put, List.setIfInBounds_toArray, List.set_cons_zero, List.set_cons_succ, i64_w, i32_w]
              rfl
             refine pure_ (i := 10) (N := some 19) (v := ?_) (a' := ?_) #[true, true, true, true, true, true, true, true, true, true, true] rfl rfl (qat HT_.out (by kernel_rfl)) (fun _ _ _ h => h) (Or.inl ⟨by rfl, ?_⟩) ?_ ?_
             rotate_left
             ·intro w'
              go_simp
              with_reducible rfl
             rotate_left
             ·simp only [Act.put, List.setIfInBounds_toArray, List.set_cons_zero, List.set_cons_succ, i64_w, i32_w]
              rfl
             refine done_ (qcb HT_.out (by kernel_rfl)) ?_
             try go_wp2
             have n0_ := qab.mk (Kd.qap HO_0.out)
             have n1_ := qab.mk (qaj BK266.out)
             have n2_ := qab.mk (Kept.drew HK.out)
             have n3_ := qab.mk (qac HB.out)
             clear HO_0
             clear BK266
             clear HK
             clear HB
             have HO_0 := n0_
             have BK266 := n1_
             have HK := n2_
             have HB := n3_
             clear n0_ n1_ n2_ n3_
             have p269 : 0 ≤ ((ji6) : Int) := of_decide_eq_true (by first | (with_reducible assumption) | assumption)
             have q269 : (ji6) < (l0.length : Int) := of_decide_eq_true (by first | (with_reducible assumption) | assumption)
             obtain ⟨ad269, e269, hx269_0, hx269_1⟩ := at_T83 (Kd.qau HO_0.out).2.2 (ji6) p269 q269
             obtain rfl : ad267 = ad269 := (by injection e269)
             replace p269 := eq_true p269
             replace q269 := eq_true q269
             refine qch (n := 11) (S := fun w' => w'.cell? ⟨gb266, 0, none⟩ = some (.int .i64 a1_0) ∧ w'.cell? ⟨gb266, 1, none⟩ = some (.int .i64 a1_1) ∧ w'.cell? (ad267.add (((ji6)).toNat * 2)) = some (.int .i64 ((rd_T83 l0 (ji6)).f0)) ∧ w'.cell? ⟨(ad267.add (((ji6)).toNat * 2)).block, (ad267.add (((ji6)).toNat * 2)).off + 1, none⟩ = some (.int .i64 ((rd_T83 l0 (ji6)).f1))) (ds := []) #[false, false, false, false, false, false, false, false, false, false, false] (by kernel_rfl) rfl rfl ⟨(qai BK266.out 0).trans rfl, (qai BK266.out 1).trans rfl, hx269_0, hx269_1⟩ (fun hHeld => ?_); refine qbt spec_l08Put.tab4 spec_l08Put.bits4 (fun HT_ HW_ => ?_)
             generalize w25.drew = w26 at HO_0 BK266 HK HB hx269_0 hx269_1 hHeld ⊢
             refine pure_ (i := 0) (N := some 22) (v := ?_) (a' := ?_) #[true, false, false, false, false, false, false, false, false, false, false] rfl rfl (qat HT_.out (by kernel_rfl)) (fun _ _ _ h => h) (Or.inl ⟨by rfl, ?_⟩) ?_ ?_
             rotate_left
             ·intro w'
              go_simp
              with_reducible rfl
             rotate_left
             ·simp only [Act.put, List.setIfInBounds_toArray, List.set_cons_zero, List.set_cons_succ, i64_w, i32_w]
              rfl
             refine pure_ (i := 1) (N := some 23) (v := ?_) (a' := ?_) #[true, true, false, false, false, false, false, false, false, false, false] rfl rfl (qat HT_.out (by kernel_rfl)) (fun _ _ _ h => h) (Or.inl ⟨by rfl, ?_⟩) ?_ ?_
             rotate_left
             ·intro w'
              go_simp
              with_reducible rfl
             rotate_left
             ·simp only [Act.put, List.setIfInBounds_toArray, List.set_cons_zero, List.set_cons_succ, i64_w, i32_w]
              rfl
             refine pure_ (i := 2) (N := some 24) (v := ?_) (a' := ?_) #[true, true, true, false, false, false, false, false, false, false, false] rfl rfl (qat HT_.out (by kernel_rfl)) (fun _ _ _ h => h) (Or.inl ⟨by rfl, ?_⟩) ?_ ?_
             rotate_left
             ·intro w'
              go_simp
              with_reducible rfl
             rotate_left
             ·simp only [Act.put, List.setIfInBounds_toArray, List.set_cons_zero, List.set_cons_succ, i64_w, i32_w]
              rfl
             refine pure_ (i := 3) (N := some 25) (v := ?_) (a' := ?_) #[true, true, true, true, false, false, false, false, false, false, false] rfl rfl (qat HT_.out (by kernel_rfl)) (fun _ _ _ h => h) (Or.inl ⟨by rfl, ?_⟩) ?_ ?_
             rotate_left
             ·intro w'
              go_simp
              with_reducible rfl
             rotate_left
             ·simp only [Act.put, List.setIfInBounds_toArray, List.set_cons_zero, List.set_cons_succ, i64_w, i32_w]
              rfl
             refine pure_ (i := 4) (N := some 26) (v := ?_) (a' := ?_) #[true, true, true, true, true, false, false, false, false, false, false] rfl rfl (qat HT_.out (by kernel_rfl)) (fun _ _ _ h => h) (Or.inl ⟨by rfl, ?_⟩) ?_ ?_
             rotate_left
             ·intro w'
              go_simp
              with_reducible rfl
             rotate_left
             ·simp only [Act.put, List.setIfInBounds_toArray, List.set_cons_zero, List.set_cons_succ, i64_w, i32_w]
              rfl
             refine pure_ (i := 5) (N := some 27) (v := ?_) (a' := ?_) #[true, true, true, true, true, true, false, false, false, false, false] rfl rfl (qat HT_.out (by kernel_rfl)) (fun _ _ _ h => h) (Or.inl ⟨by rfl, ?_⟩) ?_ ?_
             rotate_left
             ·intro w'
              go_simp
              with_reducible rfl
             rotate_left
             ·simp only [Act.put, List.setIfInBounds_toArray, List.set_cons_zero, List.set_cons_succ, i64_w, i32_w]
              rfl
             refine pure_ (i := 6) (N := some 28) (v := ?_) (a' := ?_) #[true, true, true, true, true, true, true, false, false, false, false] rfl rfl (qat HT_.out (by kernel_rfl)) (fun _ _ _ h => h) (Or.inl ⟨by rfl, ?_⟩) ?_ ?_
             rotate_left
             ·intro w'
              go_simp
              with_reducible rfl
             rotate_left
             ·simp only [Act.put, List.setIfInBounds_toArray, List.set_cons_zero, List.set_cons_succ, i64_w, i32_w]
              rfl
             refine take_ (i := 7) (N := some 29) (v := ?_) (a' := ?_) #[true, true, true, true, true, true, true, true, false, false, false] rfl rfl (qbp HT_.out HW_.out (by kernel_rfl)) (fun _ _ _ h => h) (Or.inl ⟨by rfl, ?_⟩) hHeld ?_ ?_
             rotate_left
             ·rintro w' ⟨s0, s1, s2, s3⟩
              go_simp
              with_reducible rfl
             rotate_left
             ·simp only [Act.put, List.setIfInBounds_toArray, List.set_cons_zero, List.set_cons_succ, i64_w, i32_w]
              rfl
             refine take_ (i := 8) (N := some 30) (v := ?_) (a' := ?_) #[true, true, true, true, true, true, true, true, true, false, false] rfl rfl (qbp HT_.out HW_.out (by kernel_rfl)) (fun _ _ _ h => h) (Or.inl ⟨by rfl, ?_⟩) hHeld ?_ ?_
             rotate_left
             ·rintro w' ⟨s0, s1, s2, s3⟩
              go_simp
              with_reducible rfl
             rotate_left
             ·simp only [Act.put, List.setIfInBounds_toArray, List.set_cons_zero, List.set_cons_succ, i64_w, i32_w]
              rfl
             refine pure_ (i := 9) (N := some 31) (v := ?_) (a' := ?_) #[true, true, true, true, true, true, true, true, true, true, false] rfl rfl (qat HT_.out (by kernel_rfl)) (fun _ _ _ h => h) (Or.inl ⟨by rfl, ?_⟩) ?_ ?_
             rotate_left
             ·intro w'
              go_simp
              with_reducible rfl
             rotate_left
             ·simp only [Act.put, List.setIfInBounds_toArray, List.set_cons_zero, List.set_cons_succ, i64_w, i32_w]
              rfl
             refine pure_ (i := 10) (N := some 32) (v := ?_) (a' := ?_) #[true, true, true, true, true, true, true, true, true, true, true] rfl rfl (qat HT_.out (by kernel_rfl)) (fun _ _ _ h => h) (Or.inl ⟨by rfl, ?_⟩) ?_ ?_
             rotate_left
             ·intro w'
              go_simp
              with_reducible rfl
             rotate_left
             ·simp only [Act.put, List.setIfInBounds_toArray, List.set_cons_zero, List.set_cons_succ, i64_w, i32_w]
              rfl
             refine done_ (qcb HT_.out (by kernel_rfl)) ?_
             try go_wp2_with (first | ((with_reducible refine qas (N := 34) rfl ?_); refine Kd.R_lit k83 _ 83 ?hg (N := 34) ?hd (xs := ([] : List (S83))) (inner := []) (ok := fun _ => True) (okp := fun _ => True) ?hr ?hp (fun _ hk => hk) trivial (Below.refl _ _) (Nat.le_refl _) (by simp) ?_; (case hd => rfl); (case hg => rfl); (case hr => first | (go_simp; done) | (go_simp; rfl)); (case hp => exact (Reps.none _ _)); intro v271 w27 ho28 hb hg_ hnew_; clear hg_ hnew_; (first | rw [← Ny270.out] at ho28 | (simp only [Int.reduceToNat] at ho28; rw [← Ny270.out] at ho28)); have n0_ := qab.mk (Kd.qbc (by (with_reducible repeat (first | apply Kd.qao | apply Kd.qan | apply Kd.qap)); exact HO_0.out) (Kd.qbl ho28) hb); have n1_ := qab.mk (Kd.qbm (Kd.qdj (Kd.qbn (Kd.qdi (M := fun k_ => (P0_ k_ ∨ w.heap.size ≤ k_)) ho28 (by first | exact HK.out.1 | exact (show Kept w _ (fun k_ => P0_ k_) from by repeat (first | (with_reducible first | exact HK.out | apply Kept.alloc | apply Kept.drewN | apply Kept.drew | refine Kept.setCell ?_ (.inr GW266.out) _) | exact HK.out)).1) (fun k_ h_ => .inr h_)) (Kd.R_lt (by (with_reducible repeat (first | apply Kd.qao | apply Kd.qan | apply Kd.qap)); exact HO_0.out))) (g := gb266) (o := .cells #[.int .i64 a1_0, .int .i64 a1_1] 83 (0, 0)) (by (with_reducible repeat (first | refine qag ?_ _ | refine qaj ?_ | refine qaf ?_ _)); exact BK266.out)) (qal (by repeat (first | (with_reducible first | exact HB.out | apply qad | apply qaa | apply qac | refine qae ?_ GE266.out) | exact HB.out)))); have n2_ := qab.mk (qam (g := gb266) (o := .cells #[.int .i64 a1_0, .int .i64 a1_1] 83 (0, 0)) (by (with_reducible repeat (first | refine qag ?_ _ | refine qaj ?_ | refine qaf ?_ _)); exact BK266.out) hb); have n3_ := qab.mk (Kept.below (S := (fun k_ => P0_ k_)) (by repeat (first | (with_reducible first | exact HK.out | apply Kept.alloc | apply Kept.drewN | apply Kept.drew | refine Kept.setCell ?_ (.inr GW266.out) _) | exact HK.out)) hb); have n4_ := qab.mk (qak (by repeat (first | (with_reducible first | exact HB.out | apply qad | apply qaa | apply qac | refine qae ?_ GE266.out) | exact HB.out)) hb); clear HO_0; clear BK266; clear HK; clear HB; have HO_0 := n0_; have HO272 := n1_; have BK266 := n2_; have HK := n3_; have HB := n4_; clear n0_ n1_ n2_ n3_ n4_; clear hb ho28; have q29 : (x5_1 : Int) ≤ ((l0.length : Int) : Int) := of_decide_eq_true (by first | (with_reducible assumption) | assumption); obtain ⟨i029, hi029, _, hsz29, _⟩ := info_parts info83; have hroom29 : l0.length ≤ co4 := (Kd.qau HO_0.out).2.1; have hC29 : Kd.C k83 _ (some ad267) l0.length l0 := (Kd.qau HO_0.out).2.2; have hcut29 := qdh (P := Try.prog) 48 83 .i64 Try.underlying48 hi029 (some ad267) l0.length co4 x5_1 (of_decide_eq_true (by first | (with_reducible assumption) | assumption)) q29 hroom29; have hr29 := Kd.qcq (m := (x5_1 : Int).toNat) hC29 (by omega); have hy29 : y273.length = (x5_1 : Int).toNat := (by rw [Ny273.out, List.length_take]; omega); rw [← Ny273.out] at hr29; rw [← hy29] at hcut29; have HR276 := qab.mk hr29; have HC276 := qab.mk (show y273.length ≤ co4 from by omega); clear hr29 hC29 hroom29 hi029 hsz29; have KY29 := qab.mk hy29; clear hy29; have KL29 := qab.mk (show (x5_1 : Int).toNat ≤ l0.length from by omega); replace q29 := eq_true q29) | ((with_reducible refine qbs (b := .append) (xs := #[.tmp 34, .tmp 37]) rfl ?_); at_builtin; refine Kd.qca k83 (w0 := w0) w0.heap.size rfl (.tmp 34) (.tmp 37) 48 83 (.agg #[(.int .i64 0), (.int .i64 0)]) 16 rfl Try.underlying48 info83 rfl (by decide) (by omega) v271 y270 y273 _ _ _ (fun k_ => (P0_ k_ ∨ w.heap.size ≤ k_) ∧ some k_ ≠ (.slice (some ad267) l0.length co4 : Value).ownBlock ∧ k_ ≠ gb266) (fun _ => False) rfl rfl ?aO ?aR (fun _ _ h => h) (fun _ h => h.elim) ?aF ?aB ?aS ?aL ?_; (case aR => repeat (first | exact (by repeat (first | (with_reducible exact HR276.out) | (with_reducible first | refine Kd.qaz ?_ _ | refine Kd.qay ?_ _ | refine Kd.qbd ?_) | exact HR276.out)) | (with_reducible first | refine Kd.qaz ?_ _ | refine Kd.qay ?_ _ | refine Kd.qbd ?_))); (case aB => exact (by repeat (first | (with_reducible first | exact HB.out | apply qad | apply qaa | apply qac | refine qae ?_ GE266.out) | exact HB.out))); (case aF => exact (fun k_ hk => ⟨(.inr (Nat.le_trans (by first | exact HK.out.1 | exact (show Kept w _ (fun k_ => P0_ k_) from by repeat (first | (with_reducible first | exact HK.out | apply Kept.alloc | apply Kept.drewN | apply Kept.drew | refine Kept.setCell ?_ (.inr GW266.out) _) | exact HK.out)).1) hk)), Kd.fresh' (Kd.R_lt (by (with_reducible repeat (first | apply Kd.qao | apply Kd.qan | apply Kd.qap)); exact HO_0.out)) k_ hk, Kd.freshB (g := gb266) (o := .cells #[.int .i64 a1_0, .int .i64 a1_1] 83 (0, 0)) (by (with_reducible repeat (first | refine qag ?_ _ | refine qaj ?_ | refine qaf ?_ _)); exact BK266.out) k_ hk⟩)); (case aO => exact (by (with_reducible repeat (first | apply Kd.qao | apply Kd.qan | apply Kd.qap)); exact Kd.qbb HO272.out (fun _ hk => ⟨hk.1.1.1, ⟨hk.1.2, hk.2⟩⟩))); (case aS => exact (qal (by repeat (first | (with_reducible first | exact HB.out | apply qad | apply qaa | apply qac | refine qae ?_ GE266.out) | exact HB.out)))); (case aL => have := LMc19.out; omega); intro v278 w30 ho hb hg hat; rw [← Ny277.out] at ho; have n0_ := qab.mk (Kd.qbx (ok := (fun k_ => (P0_ k_ ∨ w.heap.size ≤ k_) ∧ k_ ≠ gb266)) (by (with_reducible repeat (first | apply Kd.qao | apply Kd.qan | apply Kd.qap)); exact HO_0.out) hg hat); have n1_ := qab.mk (qbr (g := gb266) (o := .cells #[.int .i64 a1_0, .int .i64 a1_1] 83 (0, 0)) (by (with_reducible repeat (first | refine qag ?_ _ | refine qaj ?_ | refine qaf ?_ _)); exact BK266.out) hg (Kd.qcs HO272.out (fun _ hk => hk.2))); have n2_ := qab.mk (hb); have n3_ := qab.mk (Kept.qcm (S := (fun k_ => P0_ k_)) hg (by repeat (first | (with_reducible first | exact HK.out | apply Kept.alloc | apply Kept.drewN | apply Kept.drew | refine Kept.setCell ?_ (.inr GW266.out) _) | exact HK.out)) (fun k_ e_ => (HO272.out.1 k_ e_).1.1.1)); have n4_ := qab.mk ((show Kd.C k83 w30 (some ad267) y273.length y273 from by rw [Ny273.out]; exact Kd.qcq (m := (x5_1 : Int).toNat) ((Kd.qau (Kd.qbx (ok := (fun k_ => (P0_ k_ ∨ w.heap.size ≤ k_) ∧ k_ ≠ gb266)) (by (with_reducible repeat (first | apply Kd.qao | apply Kd.qan | apply Kd.qap)); exact HO_0.out) hg hat)).2.2) KL29.out)); have n5_ := qab.mk (ho); clear HO_0; clear BK266; clear HB; clear HK; clear HR276; clear HO272; have HO_0 := n0_; have BK266 := n1_; have HB := n2_; have HK := n3_; have HR276 := n4_; have HO279 := n5_; clear n0_ n1_ n2_ n3_ n4_ n5_; clear ho hb hg hat; have hcz31_0 : w30.cell? ⟨gb266, 0, none⟩ = some (.int .i64 a1_0) := (qai BK266.out 0).trans rfl; have hcz31_1 : w30.cell? ⟨gb266, 1, none⟩ = some (.int .i64 a1_1) := (qai BK266.out 1).trans rfl; have hfz31_0 := qah BK266.out 0; have hfz31_1 := qah BK266.out 1) | ((with_reducible refine qbs (b := .append) (xs := #[.tmp 39, .tmp 41]) rfl ?_); at_builtin; refine Kd.qcn k83 (w0 := w0) w0.heap.size rfl (.tmp 39) (.tmp 41) 48 83 (.agg #[(.int .i64 0), (.int .i64 0)]) 16 rfl Try.underlying48 info83 rfl (by decide) (by omega) v278 y277 (⟨a1_0, a1_1⟩ : S83) [.int .i64 a1_0, .int .i64 a1_1] (fun k_ => (P0_ k_ ∨ w.heap.size ≤ k_) ∧ some k_ ≠ (.slice (some ad267) l0.length co4 : Value).ownBlock ∧ k_ ≠ gb266) (fun _ => False) rfl rfl ?aP (fun _ hk => hk.elim) ?aF ?aO ?aB ?aS ?aL ?_; (case aP => exact k83_mkM _ _ _ (⟨a1_0, a1_1⟩ : S83)); (case aB => exact (by repeat (first | (with_reducible first | exact HB.out | apply qad | apply qaa | apply qac | refine qae ?_ GE266.out) | exact HB.out))); (case aF => exact (fun k_ hk => ⟨(.inr (Nat.le_trans (by first | exact HK.out.1 | exact (show Kept w _ (fun k_ => P0_ k_) from by repeat (first | (with_reducible first | exact HK.out | apply Kept.alloc | apply Kept.drewN | apply Kept.drew | refine Kept.setCell ?_ (.inr GW266.out) _) | exact HK.out)).1) hk)), Kd.fresh' (Kd.R_lt (by (with_reducible repeat (first | apply Kd.qao | apply Kd.qan | apply Kd.qap)); exact HO_0.out)) k_ hk, Kd.freshB (g := gb266) (o := .cells #[.int .i64 a1_0, .int .i64 a1_1] 83 (0, 0)) (by (with_reducible repeat (first | refine qag ?_ _ | refine qaj ?_ | refine qaf ?_ _)); exact BK266.out) k_ hk⟩)); (case aO => exact (by (with_reducible repeat (first | apply Kd.qao | apply Kd.qan | apply Kd.qap)); exact HO279.out)); (case aS => exact (qal (by repeat (first | (with_reducible first | exact HB.out | apply qad | apply qaa | apply qac | refine qae ?_ GE266.out) | exact HB.out)))); (case aL => have := LMc20.out; omega); intro v281 w32 ho hb hg hat; rw [← Ny280.out] at ho; have n0_ := qab.mk (Kd.qbx (ok := (fun k_ => (P0_ k_ ∨ w.heap.size ≤ k_) ∧ k_ ≠ gb266)) (by (with_reducible repeat (first | apply Kd.qao | apply Kd.qan | apply Kd.qap)); exact HO_0.out) hg hat); have n1_ := qab.mk (qbr (g := gb266) (o := .cells #[.int .i64 a1_0, .int .i64 a1_1] 83 (0, 0)) (by (with_reducible repeat (first | refine qag ?_ _ | refine qaj ?_ | refine qaf ?_ _)); exact BK266.out) hg (Kd.qcs HO279.out (fun _ hk => hk.2.2))); have n2_ := qab.mk (hb); have n3_ := qab.mk (Kept.qcm (S := (fun k_ => P0_ k_)) hg (by repeat (first | (with_reducible first | exact HK.out | apply Kept.alloc | apply Kept.drewN | apply Kept.drew | refine Kept.setCell ?_ (.inr GW266.out) _) | exact HK.out)) (fun k_ e_ => (HO279.out.1 k_ e_).1)); have n4_ := qab.mk ((show Kd.C k83 w32 (some ad267) y273.length y273 from by rw [Ny273.out]; exact Kd.qcq (m := (x5_1 : Int).toNat) ((Kd.qau (Kd.qbx (ok := (fun k_ => (P0_ k_ ∨ w.heap.size ≤ k_) ∧ k_ ≠ gb266)) (by (with_reducible repeat (first | apply Kd.qao | apply Kd.qan | apply Kd.qap)); exact HO_0.out) hg hat)).2.2) KL29.out)); have n5_ := qab.mk (ho); clear HO_0; clear BK266; clear HB; clear HK; clear HR276; clear HO279; have HO_0 := n0_; have BK266 := n1_; have HB := n2_; have HK := n3_; have HR276 := n4_; have HO282 := n5_; clear n0_ n1_ n2_ n3_ n4_ n5_; clear ho hb hg hat; have q33 : (x5_1 : Int) ≤ ((l0.length : Int) : Int) := of_decide_eq_true (by first | (with_reducible assumption) | assumption); obtain ⟨i033, hi033, _, hsz33, _⟩ := info_parts info83; have hroom33 : l0.length ≤ co4 := (Kd.qau HO_0.out).2.1; have hC33 : Kd.C k83 _ (some ad267) l0.length l0 := (Kd.qau HO_0.out).2.2; have q033 : (0 : Int) ≤ (x5_1 : Int) := of_decide_eq_true (by first | (with_reducible assumption) | assumption); have hcut33 := qcz (P := Try.prog) 48 83 .i64 Try.underlying48 hi033 2 hsz33 (some ad267) l0.length co4 x5_1 q033 q33; have hr33 := Kd.qcx (m := (x5_1 : Int).toNat) (c := co4) hC33 (by omega) hroom33; obtain ⟨A33, hA33⟩ : ∃ A1, A1 = (if co4 = (x5_1 : Int).toNat then (some ad267) else ((some ad267) : Option Addr).map (·.add ((x5_1 : Int).toNat * 2))) := ⟨_, rfl⟩; obtain ⟨c33, hc33⟩ : ∃ c1, c1 = co4 - (x5_1 : Int).toNat := ⟨_, rfl⟩; have hy33 : y283.length = l0.length - (x5_1 : Int).toNat := (by rw [Ny283.out, List.length_drop] <;> omega); rw [show (l0).drop (x5_1 : Int).toNat = y283 from Ny283.out.symm] at hr33; replace hr33 : Kd.C k83 _ A33 y283.length y283 := (by rw [hA33]; exact hr33); rw [← hy33, ← hA33, ← hc33] at hcut33; have HR286 := qab.mk hr33; have HC286 := qab.mk (show y283.length ≤ c33 from by rw [hy33, hc33]; exact Nat.sub_le_sub_right hroom33 _); clear hr33 hC33 hroom33 hi033 hsz33 hc33; have KY33 := qab.mk hy33; have KA33 := qab.mk hA33; clear hy33 hA33; have KL33 := qab.mk (show (x5_1 : Int).toNat ≤ l0.length from by omega); replace q33 := eq_true q33) | ((with_reducible refine qbs (b := .append) (xs := #[.tmp 43, .tmp 46]) rfl ?_); at_builtin; refine Kd.qca k83 (w0 := w0) w0.heap.size rfl (.tmp 43) (.tmp 46) 48 83 (.agg #[(.int .i64 0), (.int .i64 0)]) 16 rfl Try.underlying48 info83 rfl (by decide) (by omega) v281 y280 y283 _ _ _ (fun k_ => (P0_ k_ ∨ w.heap.size ≤ k_) ∧ some k_ ≠ (.slice (some ad267) l0.length co4 : Value).ownBlock ∧ k_ ≠ gb266) (fun _ => False) rfl rfl ?aO ?aR (fun _ _ h => h) (fun _ h => h.elim) ?aF ?aB ?aS ?aL ?_; (case aR => repeat (first | exact (by repeat (first | (with_reducible exact HR286.out) | (with_reducible first | refine Kd.qaz ?_ _ | refine Kd.qay ?_ _ | refine Kd.qbd ?_) | exact HR286.out)) | (with_reducible first | refine Kd.qaz ?_ _ | refine Kd.qay ?_ _ | refine Kd.qbd ?_))); (case aB => exact (by repeat (first | (with_reducible first | exact HB.out | apply qad | apply qaa | apply qac | refine qae ?_ GE266.out) | exact HB.out))); (case aF => exact (fun k_ hk => ⟨(.inr (Nat.le_trans (by first | exact HK.out.1 | exact (show Kept w _ (fun k_ => P0_ k_) from by repeat (first | (with_reducible first | exact HK.out | apply Kept.alloc | apply Kept.drewN | apply Kept.drew | refine Kept.setCell ?_ (.inr GW266.out) _) | exact HK.out)).1) hk)), Kd.fresh' (Kd.R_lt (by (with_reducible repeat (first | apply Kd.qao | apply Kd.qan | apply Kd.qap)); exact HO_0.out)) k_ hk, Kd.freshB (g := gb266) (o := .cells #[.int .i64 a1_0, .int .i64 a1_1] 83 (0, 0)) (by (with_reducible repeat (first | refine qag ?_ _ | refine qaj ?_ | refine qaf ?_ _)); exact BK266.out) k_ hk⟩)); (case aO => exact (by (with_reducible repeat (first | apply Kd.qao | apply Kd.qan | apply Kd.qap)); exact HO282.out)); (case aS => exact (qal (by repeat (first | (with_reducible first | exact HB.out | apply qad | apply qaa | apply qac | refine qae ?_ GE266.out) | exact HB.out)))); (case aL => have := LMc23.out; omega); intro v288 w34 ho hb hg hat; rw [← Ny287.out] at ho; have n0_ := qab.mk (Kd.qbx (ok := (fun k_ => (P0_ k_ ∨ w.heap.size ≤ k_) ∧ k_ ≠ gb266)) (by (with_reducible repeat (first | apply Kd.qao | apply Kd.qan | apply Kd.qap)); exact HO_0.out) hg hat); have n1_ := qab.mk (qbr (g := gb266) (o := .cells #[.int .i64 a1_0, .int .i64 a1_1] 83 (0, 0)) (by (with_reducible repeat (first | refine qag ?_ _ | refine qaj ?_ | refine qaf ?_ _)); exact BK266.out) hg (Kd.qcs HO282.out (fun _ hk => hk.2.2))); have n2_ := qab.mk (hb); have n3_ := qab.mk (Kept.qcm (S := (fun k_ => P0_ k_)) hg (by repeat (first | (with_reducible first | exact HK.out | apply Kept.alloc | apply Kept.drewN | apply Kept.drew | refine Kept.setCell ?_ (.inr GW266.out) _) | exact HK.out)) (fun k_ e_ => (HO282.out.1 k_ e_).1)); have n4_ := qab.mk ((show Kd.C k83 w34 (some ad267) y273.length y273 from by rw [Ny273.out]; exact Kd.qcq (m := (x5_1 : Int).toNat) ((Kd.qau (Kd.qbx (ok := (fun k_ => (P0_ k_ ∨ w.heap.size ≤ k_) ∧ k_ ≠ gb266)) (by (with_reducible repeat (first | apply Kd.qao | apply Kd.qan | apply Kd.qap)); exact HO_0.out) hg hat)).2.2) KL29.out)); have n5_ := qab.mk ((show Kd.C k83 w34 A33 y283.length y283 from by rw [Ny283.out, KA33.out]; exact Kd.qcx (m := (x5_1 : Int).toNat) (c := co4) ((Kd.qau (Kd.qbx (ok := (fun k_ => (P0_ k_ ∨ w.heap.size ≤ k_) ∧ k_ ≠ gb266)) (by (with_reducible repeat (first | apply Kd.qao | apply Kd.qan | apply Kd.qap)); exact HO_0.out) hg hat)).2.2) KL33.out ((Kd.qau (Kd.qbx (ok := (fun k_ => (P0_ k_ ∨ w.heap.size ≤ k_) ∧ k_ ≠ gb266)) (by (with_reducible repeat (first | apply Kd.qao | apply Kd.qan | apply Kd.qap)); exact HO_0.out) hg hat)).2.1))); have n6_ := qab.mk (ho); clear HO_0; clear BK266; clear HB; clear HK; clear HR276; clear HR286; clear HO282; have HO_0 := n0_; have BK266 := n1_; have HB := n2_; have HK := n3_; have HR276 := n4_; have HR286 := n5_; have HO289 := n6_; clear n0_ n1_ n2_ n3_ n4_ n5_ n6_; clear ho hb hg hat))
             go_ret
             exact ⟨_, by first | rfl | (simp [errW_none, errW_some] <;> rfl) | (simp only [← hji6]; first | rfl | (simp [errW_none, errW_some] <;> rfl)) | (simp [*, errW_none, errW_some] <;> rfl), by (with_reducible repeat (first | apply Kd.qao | apply Kd.qan | apply Kd.qap)); exact Kd.qbb HO289.out (fun _ hk => hk.1), by repeat (first | (with_reducible first | exact HB.out | apply qad | apply qaa | apply qac | refine qae ?_ GE266.out) | exact HB.out), by repeat (first | (with_reducible first | exact HK.out | apply Kept.alloc | apply Kept.drewN | apply Kept.drew | refine Kept.setCell ?_ (.inr GW266.out) _) | exact HK.out)⟩
            ·rw [if_neg c23] at H
             exact absurd H (by simp)
           ·rw [if_neg c20] at H
            exact absurd H (by simp)
          ·rw [if_neg c19] at H
           exact absurd H (by simp)
         ·rw [if_neg c18] at H
          exact absurd H (by simp)
        ·rw [if_neg c17] at H
         exact absurd H (by simp)
     ·rw [if_neg c8] at H
      exact absurd H (by simp)
    ·rw [if_neg c7] at H
     exact absurd H (by simp)
   ·rw [if_neg c5] at H
    have c5b0 : decide (0 < x5_1) = false := decide_eq_false c5
    clear c5
    obtain ⟨y290, hy290⟩ : ∃ y_ : List (S83), y_ = (([] : List (S83))) := ⟨_, rfl⟩
    replace H : (if 0 ≤ x5_1 then (if x5_1 ≤ (l0.length : Int) then ((some (l0.take (x5_1 : Int).toNat : List (S83))).bind fun y293 => (if y290.length + y293.length < 8796093022208 then ((some (y290 ++ y293 : List (S83))).bind fun y297 => (if y297.length < 8796093022208 then ((some (y297 ++ [(⟨a1_0, a1_1⟩ : S83)] : List (S83))).bind fun y300 => ((some (l0.drop (x5_1 : Int).toNat : List (S83))).bind fun y303 => (if y300.length + y303.length < 8796093022208 then (some (y300 ++ y303)) else (none)))) else (none))) else (none))) else (none)) else (none)) = some r := by first | (rw [hy290]; with_reducible exact H) | (have H2_ := (Option.bind_some _ _).symm.trans H; rw [hy290]; with_reducible exact H2_) | (have H2_ := (Option.bind_some _ _).symm.trans H; with_reducible exact H2_) | with_reducible exact H | (rw [hy290]; exact H) | exact H
    have Ny290 := qab.mk hy290
    clear hy290
    by_cases c35 : 0 ≤ x5_1
    ·rw [if_pos c35] at H
     have c35b0 := eq_true c35
     have c35b1 : decide (0 ≤ x5_1) = true := decide_eq_true c35
     clear c35
     by_cases c36 : x5_1 ≤ (l0.length : Int)
     ·rw [if_pos c36] at H
      have c36b0 := eq_true c36
      have c36b1 : decide (x5_1 ≤ (l0.length : Int)) = true := decide_eq_true c36
      clear c36
      obtain ⟨y293, hy293⟩ : ∃ y_ : List (S83), y_ = (l0.take (x5_1 : Int).toNat) := ⟨_, rfl⟩
      replace H : (if y290.length + y293.length < 8796093022208 then ((some (y290 ++ y293 : List (S83))).bind fun y297 => (if y297.length < 8796093022208 then ((some (y297 ++ [(⟨a1_0, a1_1⟩ : S83)] : List (S83))).bind fun y300 => ((some (l0.drop (x5_1 : Int).toNat : List (S83))).bind fun y303 => (if y300.length + y303.length < 8796093022208 then (some (y300 ++ y303)) else (none)))) else (none))) else (none)) = some r := by first | (rw [hy293]; with_reducible exact H) | (have H2_ := (Option.bind_some _ _).symm.trans H; rw [hy293]; with_reducible exact H2_) | (have H2_ := (Option.bind_some _ _).symm.trans H; with_reducible exact H2_) | with_reducible exact H | (rw [hy293]; exact H) | exact H
      have Ny293 := qab.mk hy293
      clear hy293
      by_cases c37 : y290.length + y293.length < 8796093022208
      ·rw [if_pos c37] at H
       have LMc37 := qab.mk c37
       clear c37
       obtain ⟨y297, hy297⟩ : ∃ y_ : List (S83), y_ = (y290 ++ y293) := ⟨_, rfl⟩
       replace H : (if y297.length < 8796093022208 then ((some (y297 ++ [(⟨a1_0, a1_1⟩ : S83)] : List (S83))).bind fun y300 => ((some (l0.drop (x5_1 : Int).toNat : List (S83))).bind fun y303 => (if y300.length + y303.length < 8796093022208 then (some (y300 ++ y303)) else (none)))) else (none)) = some r := by first | (rw [hy297]; with_reducible exact H) | (have H2_ := (Option.bind_some _ _).symm.trans H; rw [hy297]; with_reducible exact H2_) | (have H2_ := (Option.bind_some _ _).symm.trans H; with_reducible exact H2_) | with_reducible exact H | (rw [hy297]; exact H) | exact H
       have Ny297 := qab.mk hy297
       clear hy297
       by_cases c38 : y297.length < 8796093022208
       ·rw [if_pos c38] at H
        have LMc38 := qab.mk c38
        clear c38
        obtain ⟨y300, hy300⟩ : ∃ y_ : List (S83), y_ = (y297 ++ [(⟨a1_0, a1_1⟩ : S83)]) := ⟨_, rfl⟩
        replace H : ((some (l0.drop (x5_1 : Int).toNat : List (S83))).bind fun y303 => (if y300.length + y303.length < 8796093022208 then (some (y300 ++ y303)) else (none))) = some r := by first | (rw [hy300]; with_reducible exact H) | (have H2_ := (Option.bind_some _ _).symm.trans H; rw [hy300]; with_reducible exact H2_) | (have H2_ := (Option.bind_some _ _).symm.trans H; with_reducible exact H2_) | with_reducible exact H | (rw [hy300]; exact H) | exact H
        have Ny300 := qab.mk hy300
        clear hy300
        have c39b0 := eq_true (of_decide_eq_true (by first | (with_reducible assumption) | assumption) : 0 ≤ x5_1)
        have c40b0 := eq_true (of_decide_eq_true (by first | (with_reducible assumption) | assumption) : x5_1 ≤ (l0.length : Int))
        obtain ⟨y303, hy303⟩ : ∃ y_ : List (S83), y_ = (l0.drop (x5_1 : Int).toNat) := ⟨_, rfl⟩
        replace H : (if y300.length + y303.length < 8796093022208 then (some (y300 ++ y303)) else (none)) = some r := by first | (rw [hy303]; with_reducible exact H) | (have H2_ := (Option.bind_some _ _).symm.trans H; rw [hy303]; with_reducible exact H2_) | (have H2_ := (Option.bind_some _ _).symm.trans H; with_reducible exact H2_) | with_reducible exact H | (rw [hy303]; exact H) | exact H
        have Ny303 := qab.mk hy303
        clear hy303
        by_cases c41 : y300.length + y303.length < 8796093022208
        ·rw [if_pos c41] at H
         have LMc41 := qab.mk c41
         clear c41
         obtain ⟨y307, hy307⟩ : ∃ y_ : List (S83), y_ = (y300 ++ y303) := ⟨_, rfl⟩
         replace H : (some y307) = some r := by first | (rw [hy307]; with_reducible exact H) | (have H2_ := (Option.bind_some _ _).symm.trans H; rw [hy307]; with_reducible exact H2_) | (have H2_ := (Option.bind_some _ _).symm.trans H; with_reducible exact H2_) | with_reducible exact H | (rw [hy307]; exact H) | exact H
         have Ny307 := qab.mk hy307
         clear hy307
         obtain rfl := Option.some.inj H
         try go_wp2
         have n0_ := qab.mk (Kd.qap HO_0.out)
         have n1_ := qab.mk (qaj BK266.out)
         have n2_ := qab.mk (Kept.drew HK.out)
         have n3_ := qab.mk (qac HB.out)
         clear HO_0
         clear BK266
         clear HK
         clear HB
         have HO_0 := n0_
         have BK266 := n1_
         have HK := n2_
         have HB := n3_
         clear n0_ n1_ n2_ n3_
         refine qch (n := 11) (S := fun w' => True) (ds := []) #[false, false, false, false, false, false, false, false, false, false, false] (by kernel_rfl) rfl rfl trivial (fun hHeld => ?_); refine qbt spec_l08Put.tab2 spec_l08Put.bits2 (fun HT_ HW_ => ?_)
         generalize wr.drew = w42 at HO_0 BK266 HK HB hHeld ⊢
         refine pure_ (i := 0) (N := some 9) (v := ?_) (a' := ?_) #[true, false, false, false, false, false, false, false, false, false, false] rfl rfl (qat HT_.out (by kernel_rfl)) (fun _ _ _ h => h) (Or.inl ⟨by rfl, ?_⟩) ?_ ?_
         rotate_left
         ·intro w'
          go_simp
          with_reducible rfl
         rotate_left
         ·simp only [Act.put, List.setIfInBounds_toArray, List.set_cons_zero, List.set_cons_succ, i64_w, i32_w]
          rfl
         refine pure_ (i := 1) (N := some 10) (v := ?_) (a' := ?_) #[true, true, false, false, false, false, false, false, false, false, false] rfl rfl (qat HT_.out (by kernel_rfl)) (fun _ _ _ h => h) (Or.inl ⟨by rfl, ?_⟩) ?_ ?_
         rotate_left
         ·intro w'
          go_simp
          with_reducible rfl
         rotate_left
         ·simp only [Act.put, List.setIfInBounds_toArray, List.set_cons_zero, List.set_cons_succ, i64_w, i32_w]
          rfl
         refine pure_ (i := 2) (N := some 11) (v := ?_) (a' := ?_) #[true, true, true, false, false, false, false, false, false, false, false] rfl rfl (qat HT_.out (by kernel_rfl)) (fun _ _ _ h => h) (Or.inl ⟨by rfl, ?_⟩) ?_ ?_
         rotate_left
         ·intro w'
          go_simp
          with_reducible rfl
         rotate_left
         ·simp only [Act.put, List.setIfInBounds_toArray, List.set_cons_zero, List.set_cons_succ, i64_w, i32_w]
          rfl
         refine pure_ (i := 3) (N := some 12) (v := undef) (a' := ?_) #[true, true, true, true, false, false, false, false, false, false, false] rfl rfl (qat HT_.out (by kernel_rfl)) (fun _ _ _ h => h) (Or.inr ⟨by rfl, rfl⟩) ?_ ?_
         rotate_left
         ·simp only [Act.put, List.setIfInBounds_toArray, List.set_cons_zero, List.set_cons_succ, i64_w, i32_w]
          rfl
         refine pure_ (i := 4) (N := some 13) (v := undef) (a' := ?_) #[true, true, true, true, true, false, false, false, false, false, false] rfl rfl (qat HT_.out (by kernel_rfl)) (fun _ _ _ h => h) (Or.inr ⟨by rfl, rfl⟩) ?_ ?_
         rotate_left
         ·simp only [Act.put, List.setIfInBounds_toArray, List.set_cons_zero, List.set_cons_succ, i64_w, i32_w]
          rfl
         refine pure_ (i := 5) (N := some 14) (v := undef) (a' := ?_) #[true, true, true, true, true, true, false, false, false, false, false] rfl rfl (qat HT_.out (by kernel_rfl)) (fun _ _ _ h => h) (Or.inr ⟨by rfl, rfl⟩) ?_ ?_
         rotate_left
         ·simp only [Act.put, List.setIfInBounds_toArray, List.set_cons_zero, List.set_cons_succ, i64_w, i32_w]
          rfl
         refine pure_ (i := 6) (N := some 15) (v := undef) (a' := ?_) #[true, true, true, true, true, true, true, false, false, false, false] rfl rfl (qat HT_.out (by kernel_rfl)) (fun _ _ _ h => h) (Or.inr ⟨by rfl, rfl⟩) ?_ ?_
         rotate_left
         ·simp only [Act.put, List.setIfInBounds_toArray, List.set_cons_zero, List.set_cons_succ, i64_w, i32_w]
          rfl
         refine pure_ (i := 7) (N := some 16) (v := undef) (a' := ?_) #[true, true, true, true, true, true, true, true, false, false, false] rfl rfl (qat HT_.out (by kernel_rfl)) (fun _ _ _ h => h) (Or.inr ⟨by rfl, rfl⟩) ?_ ?_
         rotate_left
         ·simp only [Act.put, List.setIfInBounds_toArray, List.set_cons_zero, List.set_cons_succ, i64_w, i32_w]
          rfl
         refine pure_ (i := 8) (N := some 17) (v := undef) (a' := ?_) #[true, true, true, true, true, true, true, true, true, false, false] rfl rfl (qat HT_.out (by kernel_rfl)) (fun _ _ _ h => h) (Or.inr ⟨by rfl, rfl⟩) ?_ ?_
         rotate_left
         ·simp only [Act.put, List.setIfInBounds_toArray, List.set_cons_zero, List.set_cons_succ, i64_w, i32_w]
          rfl
         refine pure_ (i := 9) (N := some 18) (v := undef) (a' := ?_) #[true, true, true, true, true, true, true, true, true, true, false] rfl rfl (qat HT_.out (by kernel_rfl)) (fun _ _ _ h => h) (Or.inr ⟨by rfl, rfl⟩) ?_ ?_
         rotate_left
         ·simp only [Act.put, List.setIfInBounds_toArray, List.set_cons_zero, List.set_cons_succ, i64_w, i32_w]
          rfl
         refine pure_ (i := 10) (N := some 19) (v := ?_) (a' := ?_) #[true, true, true, true, true, true, true, true, true, true, true] rfl rfl (qat HT_.out (by kernel_rfl)) (fun _ _ _ h => h) (Or.inl ⟨by rfl, ?_⟩) ?_ ?_
         rotate_left
         ·intro w'
          go_simp
          with_reducible rfl
         rotate_left
         ·simp only [Act.put, List.setIfInBounds_toArray, List.set_cons_zero, List.set_cons_succ, i64_w, i32_w]
          rfl
         refine done_ (qcb HT_.out (by kernel_rfl)) ?_
         try go_wp2
         have n0_ := qab.mk (Kd.qap HO_0.out)
         have n1_ := qab.mk (qaj BK266.out)
         have n2_ := qab.mk (Kept.drew HK.out)
         have n3_ := qab.mk (qac HB.out)
         clear HO_0
         clear BK266
         clear HK
         clear HB
         have HO_0 := n0_
         have BK266 := n1_
         have HK := n2_
         have HB := n3_
         clear n0_ n1_ n2_ n3_
         refine qch (n := 11) (S := fun w' => True) (ds := []) #[false, false, false, false, false, false, false, false, false, false, false] (by kernel_rfl) rfl rfl trivial (fun hHeld => ?_); refine qbt spec_l08Put.tab4 spec_l08Put.bits4 (fun HT_ HW_ => ?_)
         generalize w42.drew = w43 at HO_0 BK266 HK HB hHeld ⊢
         refine pure_ (i := 0) (N := some 22) (v := ?_) (a' := ?_) #[true, false, false, false, false, false, false, false, false, false, false] rfl rfl (qat HT_.out (by kernel_rfl)) (fun _ _ _ h => h) (Or.inl ⟨by rfl, ?_⟩) ?_ ?_
         rotate_left
         ·intro w'
          go_simp
          with_reducible rfl
         rotate_left
         ·simp only [Act.put, List.setIfInBounds_toArray, List.set_cons_zero, List.set_cons_succ, i64_w, i32_w]
          rfl
         refine pure_ (i := 1) (N := some 23) (v := ?_) (a' := ?_) #[true, true, false, false, false, false, false, false, false, false, false] rfl rfl (qat HT_.out (by kernel_rfl)) (fun _ _ _ h => h) (Or.inl ⟨by rfl, ?_⟩) ?_ ?_
         rotate_left
         ·intro w'
          go_simp
          with_reducible rfl
         rotate_left
         ·simp only [Act.put, List.setIfInBounds_toArray, List.set_cons_zero, List.set_cons_succ, i64_w, i32_w]
          rfl
         refine pure_ (i := 2) (N := some 24) (v := ?_) (a' := ?_) #[true, true, true, false, false, false, false, false, false, false, false] rfl rfl (qat HT_.out (by kernel_rfl)) (fun _ _ _ h => h) (Or.inl ⟨by rfl, ?_⟩) ?_ ?_
         rotate_left
         ·intro w'
          go_simp
          with_reducible rfl
         rotate_left
         ·simp only [Act.put, List.setIfInBounds_toArray, List.set_cons_zero, List.set_cons_succ, i64_w, i32_w]
          rfl
         refine pure_ (i := 3) (N := some 25) (v := undef) (a' := ?_) #[true, true, true, true, false, false, false, false, false, false, false] rfl rfl (qat HT_.out (by kernel_rfl)) (fun _ _ _ h => h) (Or.inr ⟨by rfl, rfl⟩) ?_ ?_
         rotate_left
         ·simp only [Act.put, List.setIfInBounds_toArray, List.set_cons_zero, List.set_cons_succ, i64_w, i32_w]
          rfl
         refine pure_ (i := 4) (N := some 26) (v := undef) (a' := ?_) #[true, true, true, true, true, false, false, false, false, false, false] rfl rfl (qat HT_.out (by kernel_rfl)) (fun _ _ _ h => h) (Or.inr ⟨by rfl, rfl⟩) ?_ ?_
         rotate_left
         ·simp only [Act.put, List.setIfInBounds_toArray, List.set_cons_zero, List.set_cons_succ, i64_w, i32_w]
          rfl
         refine pure_ (i := 5) (N := some 27) (v := undef) (a' := ?_) #[true, true, true, true, true, true, false, false, false, false, false] rfl rfl (qat HT_.out (by kernel_rfl)) (fun _ _ _ h => h) (Or.inr ⟨by rfl, rfl⟩) ?_ ?_
         rotate_left
         ·simp only [Act.put, List.setIfInBounds_toArray, List.set_cons_zero, List.set_cons_succ, i64_w, i32_w]
          rfl
         refine pure_ (i := 6) (N := some 28) (v := undef) (a' := ?_) #[true, true, true, true, true, true, true, false, false, false, false] rfl rfl (qat HT_.out (by kernel_rfl)) (fun _ _ _ h => h) (Or.inr ⟨by rfl, rfl⟩) ?_ ?_
         rotate_left
         ·simp only [Act.put, List.setIfInBounds_toArray, List.set_cons_zero, List.set_cons_succ, i64_w, i32_w]
          rfl
         refine pure_ (i := 7) (N := some 29) (v := undef) (a' := ?_) #[true, true, true, true, true, true, true, true, false, false, false] rfl rfl (qat HT_.out (by kernel_rfl)) (fun _ _ _ h => h) (Or.inr ⟨by rfl, rfl⟩) ?_ ?_
         rotate_left
         ·simp only [Act.put, List.setIfInBounds_toArray, List.set_cons_zero, List.set_cons_succ, i64_w, i32_w]
          rfl
         refine pure_ (i := 8) (N := some 30) (v := undef) (a' := ?_) #[true, true, true, true, true, true, true, true, true, false, false] rfl rfl (qat HT_.out (by kernel_rfl)) (fun _ _ _ h => h) (Or.inr ⟨by rfl, rfl⟩) ?_ ?_
         rotate_left
         ·simp only [Act.put, List.setIfInBounds_toArray, List.set_cons_zero, List.set_cons_succ, i64_w, i32_w]
          rfl
         refine pure_ (i := 9) (N := some 31) (v := undef) (a' := ?_) #[true, true, true, true, true, true, true, true, true, true, false] rfl rfl (qat HT_.out (by kernel_rfl)) (fun _ _ _ h => h) (Or.inr ⟨by rfl, rfl⟩) ?_ ?_
         rotate_left
         ·simp only [Act.put, List.setIfInBounds_toArray, List.set_cons_zero, List.set_cons_succ, i64_w, i32_w]
          rfl
         refine pure_ (i := 10) (N := some 32) (v := ?_) (a' := ?_) #[true, true, true, true, true, true, true, true, true, true, true] rfl rfl (qat HT_.out (by kernel_rfl)) (fun _ _ _ h => h) (Or.inl ⟨by rfl, ?_⟩) ?_ ?_
         rotate_left
         ·intro w'
          go_simp
          with_reducible rfl
         rotate_left
         ·simp only [Act.put, List.setIfInBounds_toArray, List.set_cons_zero, List.set_cons_succ, i64_w, i32_w]
          rfl
         refine done_ (qcb HT_.out (by kernel_rfl)) ?_
         try go_wp2_with (first | ((with_reducible refine qas (N := 34) rfl ?_); refine Kd.R_lit k83 _ 83 ?hg (N := 34) ?hd (xs := ([] : List (S83))) (inner := []) (ok := fun _ => True) (okp := fun _ => True) ?hr ?hp (fun _ hk => hk) trivial (Below.refl _ _) (Nat.le_refl _) (by simp) ?_; (case hd => rfl); (case hg => rfl); (case hr => first | (go_simp; done) | (go_simp; rfl)); (case hp => exact (Reps.none _ _)); intro v291 w44 ho45 hb hg_ hnew_; clear hg_ hnew_; (first | rw [← Ny290.out] at ho45 | (simp only [Int.reduceToNat] at ho45; rw [← Ny290.out] at ho45)); have n0_ := qab.mk (Kd.qbc (by (with_reducible repeat (first | apply Kd.qao | apply Kd.qan | apply Kd.qap)); exact HO_0.out) (Kd.qbl ho45) hb); have n1_ := qab.mk (Kd.qbm (Kd.qdj (Kd.qbn (Kd.qdi (M := fun k_ => (P0_ k_ ∨ w.heap.size ≤ k_)) ho45 (by first | exact HK.out.1 | exact (show Kept w _ (fun k_ => P0_ k_) from by repeat (first | (with_reducible first | exact HK.out | apply Kept.alloc | apply Kept.drewN | apply Kept.drew | refine Kept.setCell ?_ (.inr GW266.out) _) | exact HK.out)).1) (fun k_ h_ => .inr h_)) (Kd.R_lt (by (with_reducible repeat (first | apply Kd.qao | apply Kd.qan | apply Kd.qap)); exact HO_0.out))) (g := gb266) (o := .cells #[.int .i64 a1_0, .int .i64 a1_1] 83 (0, 0)) (by (with_reducible repeat (first | refine qag ?_ _ | refine qaj ?_ | refine qaf ?_ _)); exact BK266.out)) (qal (by repeat (first | (with_reducible first | exact HB.out | apply qad | apply qaa | apply qac | refine qae ?_ GE266.out) | exact HB.out)))); have n2_ := qab.mk (qam (g := gb266) (o := .cells #[.int .i64 a1_0, .int .i64 a1_1] 83 (0, 0)) (by (with_reducible repeat (first | refine qag ?_ _ | refine qaj ?_ | refine qaf ?_ _)); exact BK266.out) hb); have n3_ := qab.mk (Kept.below (S := (fun k_ => P0_ k_)) (by repeat (first | (with_reducible first | exact HK.out | apply Kept.alloc | apply Kept.drewN | apply Kept.drew | refine Kept.setCell ?_ (.inr GW266.out) _) | exact HK.out)) hb); have n4_ := qab.mk (qak (by repeat (first | (with_reducible first | exact HB.out | apply qad | apply qaa | apply qac | refine qae ?_ GE266.out) | exact HB.out)) hb); clear HO_0; clear BK266; clear HK; clear HB; have HO_0 := n0_; have HO292 := n1_; have BK266 := n2_; have HK := n3_; have HB := n4_; clear n0_ n1_ n2_ n3_ n4_; clear hb ho45; have q46 : (x5_1 : Int) ≤ ((l0.length : Int) : Int) := of_decide_eq_true (by first | (with_reducible assumption) | assumption); obtain ⟨i046, hi046, _, hsz46, _⟩ := info_parts info83; have hroom46 : l0.length ≤ co4 := (Kd.qau HO_0.out).2.1; have hC46 : Kd.C k83 _ Ao4 l0.length l0 := (Kd.qau HO_0.out).2.2; have hcut46 := qdh (P := Try.prog) 48 83 .i64 Try.underlying48 hi046 Ao4 l0.length co4 x5_1 (of_decide_eq_true (by first | (with_reducible assumption) | assumption)) q46 hroom46; have hr46 := Kd.qcq (m := (x5_1 : Int).toNat) hC46 (by omega); have hy46 : y293.length = (x5_1 : Int).toNat := (by rw [Ny293.out, List.length_take]; omega); rw [← Ny293.out] at hr46; rw [← hy46] at hcut46; have HR296 := qab.mk hr46; have HC296 := qab.mk (show y293.length ≤ co4 from by omega); clear hr46 hC46 hroom46 hi046 hsz46; have KY46 := qab.mk hy46; clear hy46; have KL46 := qab.mk (show (x5_1 : Int).toNat ≤ l0.length from by omega); replace q46 := eq_true q46) | ((with_reducible refine qbs (b := .append) (xs := #[.tmp 34, .tmp 37]) rfl ?_); at_builtin; refine Kd.qca k83 (w0 := w0) w0.heap.size rfl (.tmp 34) (.tmp 37) 48 83 (.agg #[(.int .i64 0), (.int .i64 0)]) 16 rfl Try.underlying48 info83 rfl (by decide) (by omega) v291 y290 y293 _ _ _ (fun k_ => (P0_ k_ ∨ w.heap.size ≤ k_) ∧ some k_ ≠ (.slice Ao4 l0.length co4 : Value).ownBlock ∧ k_ ≠ gb266) (fun _ => False) rfl rfl ?aO ?aR (fun _ _ h => h) (fun _ h => h.elim) ?aF ?aB ?aS ?aL ?_; (case aR => repeat (first | exact (by repeat (first | (with_reducible exact HR296.out) | (with_reducible first | refine Kd.qaz ?_ _ | refine Kd.qay ?_ _ | refine Kd.qbd ?_) | exact HR296.out)) | (with_reducible first | refine Kd.qaz ?_ _ | refine Kd.qay ?_ _ | refine Kd.qbd ?_))); (case aB => exact (by repeat (first | (with_reducible first | exact HB.out | apply qad | apply qaa | apply qac | refine qae ?_ GE266.out) | exact HB.out))); (case aF => exact (fun k_ hk => ⟨(.inr (Nat.le_trans (by first | exact HK.out.1 | exact (show Kept w _ (fun k_ => P0_ k_) from by repeat (first | (with_reducible first | exact HK.out | apply Kept.alloc | apply Kept.drewN | apply Kept.drew | refine Kept.setCell ?_ (.inr GW266.out) _) | exact HK.out)).1) hk)), Kd.fresh' (Kd.R_lt (by (with_reducible repeat (first | apply Kd.qao | apply Kd.qan | apply Kd.qap)); exact HO_0.out)) k_ hk, Kd.freshB (g := gb266) (o := .cells #[.int .i64 a1_0, .int .i64 a1_1] 83 (0, 0)) (by (with_reducible repeat (first | refine qag ?_ _ | refine qaj ?_ | refine qaf ?_ _)); exact BK266.out) k_ hk⟩)); (case aO => exact (by (with_reducible repeat (first | apply Kd.qao | apply Kd.qan | apply Kd.qap)); exact Kd.qbb HO292.out (fun _ hk => ⟨hk.1.1.1, ⟨hk.1.2, hk.2⟩⟩))); (case aS => exact (qal (by repeat (first | (with_reducible first | exact HB.out | apply qad | apply qaa | apply qac | refine qae ?_ GE266.out) | exact HB.out)))); (case aL => have := LMc37.out; omega); intro v298 w47 ho hb hg hat; rw [← Ny297.out] at ho; have n0_ := qab.mk (Kd.qbx (ok := (fun k_ => (P0_ k_ ∨ w.heap.size ≤ k_) ∧ k_ ≠ gb266)) (by (with_reducible repeat (first | apply Kd.qao | apply Kd.qan | apply Kd.qap)); exact HO_0.out) hg hat); have n1_ := qab.mk (qbr (g := gb266) (o := .cells #[.int .i64 a1_0, .int .i64 a1_1] 83 (0, 0)) (by (with_reducible repeat (first | refine qag ?_ _ | refine qaj ?_ | refine qaf ?_ _)); exact BK266.out) hg (Kd.qcs HO292.out (fun _ hk => hk.2))); have n2_ := qab.mk (hb); have n3_ := qab.mk (Kept.qcm (S := (fun k_ => P0_ k_)) hg (by repeat (first | (with_reducible first | exact HK.out | apply Kept.alloc | apply Kept.drewN | apply Kept.drew | refine Kept.setCell ?_ (.inr GW266.out) _) | exact HK.out)) (fun k_ e_ => (HO292.out.1 k_ e_).1.1.1)); have n4_ := qab.mk ((show Kd.C k83 w47 Ao4 y293.length y293 from by rw [Ny293.out]; exact Kd.qcq (m := (x5_1 : Int).toNat) ((Kd.qau (Kd.qbx (ok := (fun k_ => (P0_ k_ ∨ w.heap.size ≤ k_) ∧ k_ ≠ gb266)) (by (with_reducible repeat (first | apply Kd.qao | apply Kd.qan | apply Kd.qap)); exact HO_0.out) hg hat)).2.2) KL46.out)); have n5_ := qab.mk (ho); clear HO_0; clear BK266; clear HB; clear HK; clear HR296; clear HO292; have HO_0 := n0_; have BK266 := n1_; have HB := n2_; have HK := n3_; have HR296 := n4_; have HO299 := n5_; clear n0_ n1_ n2_ n3_ n4_ n5_; clear ho hb hg hat; have hcz48_0 : w47.cell? ⟨gb266, 0, none⟩ = some (.int .i64 a1_0) := (qai BK266.out 0).trans rfl; have hcz48_1 : w47.cell? ⟨gb266, 1, none⟩ = some (.int .i64 a1_1) := (qai BK266.out 1).trans rfl; have hfz48_0 := qah BK266.out 0; have hfz48_1 := qah BK266.out 1) | ((with_reducible refine qbs (b := .append) (xs := #[.tmp 39, .tmp 41]) rfl ?_); at_builtin; refine Kd.qcn k83 (w0 := w0) w0.heap.size rfl (.tmp 39) (.tmp 41) 48 83 (.agg #[(.int .i64 0), (.int .i64 0)]) 16 rfl Try.underlying48 info83 rfl (by decide) (by omega) v298 y297 (⟨a1_0, a1_1⟩ : S83) [.int .i64 a1_0, .int .i64 a1_1] (fun k_ => (P0_ k_ ∨ w.heap.size ≤ k_) ∧ some k_ ≠ (.slice Ao4 l0.length co4 : Value).ownBlock ∧ k_ ≠ gb266) (fun _ => False) rfl rfl ?aP (fun _ hk => hk.elim) ?aF ?aO ?aB ?aS ?aL ?_; (case aP => exact k83_mkM _ _ _ (⟨a1_0, a1_1⟩ : S83)); (case aB => exact (by repeat (first | (with_reducible first | exact HB.out | apply qad | apply qaa | apply qac | refine qae ?_ GE266.out) | exact HB.out))); (case aF => exact (fun k_ hk => ⟨(.inr (Nat.le_trans (by first | exact HK.out.1 | exact (show Kept w _ (fun k_ => P0_ k_) from by repeat (first | (with_reducible first | exact HK.out | apply Kept.alloc | apply Kept.drewN | apply Kept.drew | refine Kept.setCell ?_ (.inr GW266.out) _) | exact HK.out)).1) hk)), Kd.fresh' (Kd.R_lt (by (with_reducible repeat (first | apply Kd.qao | apply Kd.qan | apply Kd.qap)); exact HO_0.out)) k_ hk, Kd.freshB (g := gb266) (o := .cells #[.int .i64 a1_0, .int .i64 a1_1] 83 (0, 0)) (by (with_reducible repeat (first | refine qag ?_ _ | refine qaj ?_ | refine qaf ?_ _)); exact BK266.out) k_ hk⟩)); (case aO => exact (by (with_reducible repeat (first | apply Kd.qao | apply Kd.qan | apply Kd.qap)); exact HO299.out)); (case aS => exact (qal (by repeat (first | (with_reducible first | exact HB.out | apply qad | apply qaa | apply qac | refine qae ?_ GE266.out) | exact HB.out)))); (case aL => have := LMc38.out; omega); intro v301 w49 ho hb hg hat; rw [← Ny300.out] at ho; have n0_ := qab.mk (Kd.qbx (ok := (fun k_ => (P0_ k_ ∨ w.heap.size ≤ k_) ∧ k_ ≠ gb266)) (by (with_reducible repeat (first | apply Kd.qao | apply Kd.qan | apply Kd.qap)); exact HO_0.out) hg hat); have n1_ := qab.mk (qbr (g := gb266) (o := .cells #[.int .i64 a1_0, .int .i64 a1_1] 83 (0, 0)) (by (with_reducible repeat (first | refine qag ?_ _ | refine qaj ?_ | refine qaf ?_ _)); exact BK266.out) hg (Kd.qcs HO299.out (fun _ hk => hk.2.2))); have n2_ := qab.mk (hb); have n3_ := qab.mk (Kept.qcm (S := (fun k_ => P0_ k_)) hg (by repeat (first | (with_reducible first | exact HK.out | apply Kept.alloc | apply Kept.drewN | apply Kept.drew | refine Kept.setCell ?_ (.inr GW266.out) _) | exact HK.out)) (fun k_ e_ => (HO299.out.1 k_ e_).1)); have n4_ := qab.mk ((show Kd.C k83 w49 Ao4 y293.length y293 from by rw [Ny293.out]; exact Kd.qcq (m := (x5_1 : Int).toNat) ((Kd.qau (Kd.qbx (ok := (fun k_ => (P0_ k_ ∨ w.heap.size ≤ k_) ∧ k_ ≠ gb266)) (by (with_reducible repeat (first | apply Kd.qao | apply Kd.qan | apply Kd.qap)); exact HO_0.out) hg hat)).2.2) KL46.out)); have n5_ := qab.mk (ho); clear HO_0; clear BK266; clear HB; clear HK; clear HR296; clear HO299; have HO_0 := n0_; have BK266 := n1_; have HB := n2_; have HK := n3_; have HR296 := n4_; have HO302 := n5_; clear n0_ n1_ n2_ n3_ n4_ n5_; clear ho hb hg hat; have q50 : (x5_1 : Int) ≤ ((l0.length : Int) : Int) := of_decide_eq_true (by first | (with_reducible assumption) | assumption); obtain ⟨i050, hi050, _, hsz50, _⟩ := info_parts info83; have hroom50 : l0.length ≤ co4 := (Kd.qau HO_0.out).2.1; have hC50 : Kd.C k83 _ Ao4 l0.length l0 := (Kd.qau HO_0.out).2.2; have q050 : (0 : Int) ≤ (x5_1 : Int) := of_decide_eq_true (by first | (with_reducible assumption) | assumption); have hcut50 := qcz (P := Try.prog) 48 83 .i64 Try.underlying48 hi050 2 hsz50 Ao4 l0.length co4 x5_1 q050 q50; have hr50 := Kd.qcx (m := (x5_1 : Int).toNat) (c := co4) hC50 (by omega) hroom50; obtain ⟨A50, hA50⟩ : ∃ A1, A1 = (if co4 = (x5_1 : Int).toNat then Ao4 else (Ao4 : Option Addr).map (·.add ((x5_1 : Int).toNat * 2))) := ⟨_, rfl⟩; obtain ⟨c50, hc50⟩ : ∃ c1, c1 = co4 - (x5_1 : Int).toNat := ⟨_, rfl⟩; have hy50 : y303.length = l0.length - (x5_1 : Int).toNat := (by rw [Ny303.out, List.length_drop] <;> omega); rw [show (l0).drop (x5_1 : Int).toNat = y303 from Ny303.out.symm] at hr50; replace hr50 : Kd.C k83 _ A50 y303.length y303 := (by rw [hA50]; exact hr50); rw [← hy50, ← hA50, ← hc50] at hcut50; have HR306 := qab.mk hr50; have HC306 := qab.mk (show y303.length ≤ c50 from by rw [hy50, hc50]; exact Nat.sub_le_sub_right hroom50 _); clear hr50 hC50 hroom50 hi050 hsz50 hc50; have KY50 := qab.mk hy50; have KA50 := qab.mk hA50; clear hy50 hA50; have KL50 := qab.mk (show (x5_1 : Int).toNat ≤ l0.length from by omega); replace q50 := eq_true q50) | ((with_reducible refine qbs (b := .append) (xs := #[.tmp 43, .tmp 46]) rfl ?_); at_builtin; refine Kd.qca k83 (w0 := w0) w0.heap.size rfl (.tmp 43) (.tmp 46) 48 83 (.agg #[(.int .i64 0), (.int .i64 0)]) 16 rfl Try.underlying48 info83 rfl (by decide) (by omega) v301 y300 y303 _ _ _ (fun k_ => (P0_ k_ ∨ w.heap.size ≤ k_) ∧ some k_ ≠ (.slice Ao4 l0.length co4 : Value).ownBlock ∧ k_ ≠ gb266) (fun _ => False) rfl rfl ?aO ?aR (fun _ _ h => h) (fun _ h => h.elim) ?aF ?aB ?aS ?aL ?_; (case aR => repeat (first | exact (by repeat (first | (with_reducible exact HR306.out) | (with_reducible first | refine Kd.qaz ?_ _ | refine Kd.qay ?_ _ | refine Kd.qbd ?_) | exact HR306.out)) | (with_reducible first | refine Kd.qaz ?_ _ | refine Kd.qay ?_ _ | refine Kd.qbd ?_))); (case aB => exact (by repeat (first | (with_reducible first | exact HB.out | apply qad | apply qaa | apply qac | refine qae ?_ GE266.out) | exact HB.out))); (case aF => exact (fun k_ hk => ⟨(.inr (Nat.le_trans (by first | exact HK.out.1 | exact (show Kept w _ (fun k_ => P0_ k_) from by repeat (first | (with_reducible first | exact HK.out | apply Kept.alloc | apply Kept.drewN | apply Kept.drew | refine Kept.setCell ?_ (.inr GW266.out) _) | exact HK.out)).1) hk)), Kd.fresh' (Kd.R_lt (by (with_reducible repeat (first | apply Kd.qao | apply Kd.qan | apply Kd.qap)); exact HO_0.out)) k_ hk, Kd.freshB (g := gb266) (o := .cells #[.int .i64 a1_0, .int .i64 a1_1] 83 (0, 0)) (by (with_reducible repeat (first | refine qag ?_ _ | refine qaj ?_ | refine qaf ?_ _)); exact BK266.out) k_ hk⟩)); (case aO => exact (by (with_reducible repeat (first | apply Kd.qao | apply Kd.qan | apply Kd.qap)); exact HO302.out)); (case aS => exact (qal (by repeat (first | (with_reducible first | exact HB.out | apply qad | apply qaa | apply qac | refine qae ?_ GE266.out) | exact HB.out)))); (case aL => have := LMc41.out; omega); intro v308 w51 ho hb hg hat; rw [← Ny307.out] at ho; have n0_ := qab.mk (Kd.qbx (ok := (fun k_ => (P0_ k_ ∨ w.heap.size ≤ k_) ∧ k_ ≠ gb266)) (by (with_reducible repeat (first | apply Kd.qao | apply Kd.qan | apply Kd.qap)); exact HO_0.out) hg hat); have n1_ := qab.mk (qbr (g := gb266) (o := .cells #[.int .i64 a1_0, .int .i64 a1_1] 83 (0, 0)) (by (with_reducible repeat (first | refine qag ?_ _ | refine qaj ?_ | refine qaf ?_ _)); exact BK266.out) hg (Kd.qcs HO302.out (fun _ hk => hk.2.2))); have n2_ := qab.mk (hb); have n3_ := qab.mk (Kept.qcm (S := (fun k_ => P0_ k_)) hg (by repeat (first | (with_reducible first | exact HK.out | apply Kept.alloc | apply Kept.drewN | apply Kept.drew | refine Kept.setCell ?_ (.inr GW266.out) _) | exact HK.out)) (fun k_ e_ => (HO302.out.1 k_ e_).1)); have n4_ := qab.mk ((show Kd.C k83 w51 Ao4 y293.length y293 from by rw [Ny293.out]; exact Kd.qcq (m := (x5_1 : Int).toNat) ((Kd.qau (Kd.qbx (ok := (fun k_ => (P0_ k_ ∨ w.heap.size ≤ k_) ∧ k_ ≠ gb266)) (by (with_reducible repeat (first | apply Kd.qao | apply Kd.qan | apply Kd.qap)); exact HO_0.out) hg hat)).2.2) KL46.out)); have n5_ := qab.mk ((show Kd.C k83 w51 A50 y303.length y303 from by rw [Ny303.out, KA50.out]; exact Kd.qcx (m := (x5_1 : Int).toNat) (c := co4) ((Kd.qau (Kd.qbx (ok := (fun k_ => (P0_ k_ ∨ w.heap.size ≤ k_) ∧ k_ ≠ gb266)) (by (with_reducible repeat (first | apply Kd.qao | apply Kd.qan | apply Kd.qap)); exact HO_0.out) hg hat)).2.2) KL50.out ((Kd.qau (Kd.qbx (ok := (fun k_ => (P0_ k_ ∨ w.heap.size ≤ k_) ∧ k_ ≠ gb266)) (by (with_reducible repeat (first | apply Kd.qao | apply Kd.qan | apply Kd.qap)); exact HO_0.out) hg hat)).2.1))); have n6_ := qab.mk (ho); clear HO_0; clear BK266; clear HB; clear HK; clear HR296; clear HR306; clear HO302; have HO_0 := n0_; have BK266 := n1_; have HB := n2_; have HK := n3_; have HR296 := n4_; have HR306 := n5_; have HO309 := n6_; clear n0_ n1_ n2_ n3_ n4_ n5_ n6_; clear ho hb hg hat))
         go_ret
         exact ⟨_, by first | rfl | (simp [errW_none, errW_some] <;> rfl) | (simp [*, errW_none, errW_some] <;> rfl), by (with_reducible repeat (first | apply Kd.qao | apply Kd.qan | apply Kd.qap)); exact Kd.qbb HO309.out (fun _ hk => hk.1), by repeat (first | (with_reducible first | exact HB.out | apply qad | apply qaa | apply qac | refine qae ?_ GE266.out) | exact HB.out), by repeat (first | (with_reducible first | exact HK.out | apply Kept.alloc | apply Kept.drewN | apply Kept.drew | refine Kept.setCell ?_ (.inr GW266.out) _) | exact HK.out)⟩
        ·rw [if_neg c41] at H
         exact absurd H (by simp)
       ·rw [if_neg c38] at H
        exact absurd H (by simp)
      ·rw [if_neg c37] at H
       exact absurd H (by simp)
     ·rw [if_neg c36] at H
      exact absurd H (by simp)
    ·rw [if_neg c35] at H
     exact absurd H (by simp)


/-! ### spec_l08List: function 123 -/
def spec_l08List.l0 : Nat → List (S83) → Int → List Int → Int → Int → Option ((List (S83)) × Int × Int)
 | 0, _, _, _, _, _ => none
 | k + 1, x3, x4, x1000, x1001, x1002 => (spec_l01Below.f x1000 x1001 x1002 9).bind fun bt313 => (if x4 < bt313.1 then ((spec_l01Below.f x1000 bt313.2.1 bt313.2.2 6).bind fun bt316 => ((spec_l01Below.f x1000 bt316.2.1 bt316.2.2 6).bind fun bt319 => ((spec_l08Put.f k x3 bt316.1 bt319.1).bind fun t322 => (spec_l08List.l0 k t322 (wrap64 (x4 + 1)) x1000 bt319.2.1 bt319.2.2)))) else (some (x3, bt313.2.1, bt313.2.2)))
def spec_l08List.f (k : Nat) (s0_0 : List Int) (s0_1 : Int) (s0_2 : Int) : Option ((List (S83)) × Int × Int) := spec_l08List.l0 k (([] : List (S83))) 0 s0_0 s0_1 s0_2
theorem spec_l08List.mono_l : ∀ k, (∀ y0 y1 y2 y3 y4, LeO (spec_l08List.l0 k y0 y1 y2 y3 y4) (spec_l08List.l0 (k + 1) y0 y1 y2 y3 y4))
 | 0 => fun _ _ _ _ _ r h => by simp [spec_l08List.l0] at h
 | k + 1 => by
  have ih0 := spec_l08List.mono_l k
  ·intro y0 y1 y2 y3 y4
   unfold spec_l08List.l0
   repeat' first
   | (with_reducible exact ih0 _ _ _ _ _)
   | (with_reducible exact spec_l08Put.mono _ _ _ _)
   | (with_reducible exact LeO.refl _)
   | (with_reducible exact LeO.none _)
   | (with_reducible refine LeO.ite ?_ ?_)
   | (with_reducible refine LeO.bind ?_ (fun _ => ?_))
   | exact ih0 _ _ _ _ _
   | exact spec_l08Put.mono _ _ _ _
   | exact LeO.none _
   | refine LeO.ite ?_ ?_
   | refine LeO.bind ?_ (fun _ => ?_)
theorem spec_l08List.mono : ∀ a0 a1 a2 k, LeO (spec_l08List.f k a0 a1 a2) (spec_l08List.f (k + 1) a0 a1 a2) := by
 intro a0 a1 a2 k
 have ih0 := spec_l08List.mono_l k
 unfold spec_l08List.f
 repeat' first
   | (with_reducible exact ih0 _ _ _ _ _)
   | (with_reducible exact spec_l08Put.mono _ _ _ _)
   | (with_reducible exact LeO.refl _)
   | (with_reducible exact LeO.none _)
   | (with_reducible refine LeO.ite ?_ ?_)
   | (with_reducible refine LeO.bind ?_ (fun _ => ?_))
   | exact ih0 _ _ _ _ _
   | exact spec_l08Put.mono _ _ _ _
   | exact LeO.none _
   | refine LeO.ite ?_ ?_
   | refine LeO.bind ?_ (fun _ => ?_)
set_option maxHeartbeats 8000000 in
set_option maxRecDepth 100000 in
theorem spec_l08List.calls (k : Nat) (g : Nat) (s0_0 : List Int) (s0_1 : Int) (s0_2 : Int) (r1 : List (S83)) (r2 : Int) (r3 : Int) (w0 w : World) (hI : IsS137 w0 w g s0_0 s0_1 s0_2) (hB : Below w0.heap.size w0 w) (h : spec_l08List.f k s0_0 s0_1 s0_2 = some (r1, r2, r3)) :
  Calls Try.prog 123 #[.pointer (some ⟨g, 0, none⟩)] w fun e w' => ∃ v0_ : Value, e = .returned (v0_) ∧ Kd.R k83 83 w' w.heap.size (fun _ => True) v0_ r1 ∧ IsS137 w0 w' g s0_0 r2 r3 ∧ Below w0.heap.size w0 w' ∧ KeepBut w w' g none := by
 have hu83 := Try.underlying83
 have HI0 := qab.mk hI
 have HK := qab.mk (KeepBut.refl w g none)
 have HL := qab.mk hB.size
 clear hI
 have HW0 := qab.mk hB.size
 have HB := qab.mk hB
 clear hB
 have H : (spec_l08List.l0 k (([] : List (S83))) 0 s0_0 s0_1 s0_2) = some (r1, r2, r3) := h
 clear h
 obtain ⟨y310, hy310⟩ : ∃ y_ : List (S83), y_ = (([] : List (S83))) := ⟨_, rfl⟩
 replace H : (spec_l08List.l0 k y310 0 s0_0 s0_1 s0_2) = some (r1, r2, r3) := by first | (rw [hy310]; with_reducible exact H) | (have H2_ := (Option.bind_some _ _).symm.trans H; rw [hy310]; with_reducible exact H2_) | (have H2_ := (Option.bind_some _ _).symm.trans H; with_reducible exact H2_) | with_reducible exact H | (rw [hy310]; exact H) | exact H
 have Ny310 := qab.mk hy310
 clear hy310
 have H' := qab.mk H
 clear H
 go_enter Try.func123, Try.ntmps123
 go_wp2_with (first | ((with_reducible refine qas (N := 5) rfl ?_); refine Kd.R_lit k83 _ 83 ?hg (N := 5) ?hd (xs := ([] : List (S83))) (inner := []) (ok := fun _ => True) (okp := fun _ => True) ?hr ?hp (fun _ hk => hk) trivial (Below.refl _ _) (Nat.le_refl _) (by simp) ?_; (case hd => rfl); (case hg => rfl); (case hr => first | (go_simp; done) | (go_simp; rfl)); (case hp => exact (Reps.none _ _)); intro v311 w2 ho3 hb hg_ hnew_; clear hg_ hnew_; (first | rw [← Ny310.out] at ho3 | (simp only [Int.reduceToNat] at ho3; rw [← Ny310.out] at ho3)); have n0_ := qab.mk (Kd.qbm ho3 (qbu (w := w) (g := g) (row := none) (by repeat (first | (with_reducible first | exact HK.out | apply KeepBut.set_ | apply qaw | apply qba | apply qax) | exact HK.out)))); have n1_ := qab.mk (IsS137.below (by repeat (first | (with_reducible first | exact HI0.out | apply IsS137.alloc | apply IsS137.drewN | apply IsS137.drew | apply IsS137.set_1 | apply IsS137.set_2) | exact HI0.out)) hb); have n2_ := qab.mk (KeepBut.trans (by repeat (first | (with_reducible first | exact HK.out | apply KeepBut.set_ | apply qaw | apply qba | apply qax) | exact HK.out)) (KeepBut.qci hb g none) (.inl rfl)); have n3_ := qab.mk (qak (by repeat (first | (with_reducible first | exact HB.out | apply qad | apply qaa | apply qac | refine qae ?_ (IsS137.ge HI0.out)) | exact HB.out)) hb); clear HI0; clear HK; clear HB; have HO312 := n0_; have HI0 := n1_; have HK := n2_; have HB := n3_; clear n0_ n1_ n2_ n3_; clear hb ho3))
 go_loopg [3, 4] k (fun kq v3 v4 w' => ∃ (x3_1 : List (S83)) (x4_1 : Int) (x1001_1 : Int) (x1002_1 : Int), v4 = .int .i64 x4_1 ∧ qab (spec_l08List.l0 kq x3_1 x4_1 s0_0 x1001_1 x1002_1 = some (r1, r2, r3)) ∧ qab (kq ≤ k) ∧ qab (Kd.R k83 83 w' w.heap.size (fun _ => True) v3 x3_1) ∧ qab (IsS137 w0 w' g s0_0 x1001_1 x1002_1) ∧ qab (KeepBut w w' g none) ∧ qab (Below w0.heap.size w0 w'))
 case atStart => exact ⟨(y310), (0), (s0_1), (s0_2), (by first | rfl | (simp; done) | (simp [*]; done)), H', ⟨Nat.le_refl _⟩, ⟨by (with_reducible repeat (first | apply Kd.qao | apply Kd.qan | apply Kd.qap)); exact HO312.out⟩, ⟨by repeat (first | (with_reducible first | exact HI0.out | apply IsS137.alloc | apply IsS137.drewN | apply IsS137.drew | apply IsS137.set_1 | apply IsS137.set_2) | exact HI0.out)⟩, ⟨by repeat (first | (with_reducible first | exact HK.out | apply KeepBut.set_ | apply qaw | apply qba | apply qax) | exact HK.out)⟩, ⟨by repeat (first | (with_reducible first | exact HB.out | apply qad | apply qaa | apply qac | refine qae ?_ (IsS137.ge HI0.out)) | exact HB.out)⟩⟩
 case round =>
  clear H'
  try clear c1
  try clear p2
  obtain ⟨x3_1, x4_1, x1001_1, x1002_1, rfl, HA, HK1, HO_3, HI0, HK, HB⟩ := hrel
  cases gk with
  | zero => exact absurd HA.out (by simp [spec_l08List.l0])
  | succ k1 =>
   have H := HA.out
   clear HA
   simp only [spec_l08List.l0] at H
   replace H := Option.bind_eq_some_iff.mp H
   obtain ⟨⟨t313, t314, t315⟩, A40, H⟩ := H
   replace H : (if x4_1 < t313 then ((spec_l01Below.f s0_0 t314 t315 6).bind fun bt316 => ((spec_l01Below.f s0_0 bt316.2.1 bt316.2.2 6).bind fun bt319 => ((spec_l08Put.f k1 x3_1 bt316.1 bt319.1).bind fun t322 => (spec_l08List.l0 k1 t322 (wrap64 (x4_1 + 1)) s0_0 bt319.2.1 bt319.2.2)))) else (some (x3_1, t314, t315))) = some (r1, r2, r3) := H
   have A4 := qab.mk A40
   clear A40
   by_cases c5 : x4_1 < t313
   ·rw [if_pos c5] at H
    have c5b0 : decide (x4_1 < t313) = true := decide_eq_true c5
    clear c5
    replace H := Option.bind_eq_some_iff.mp H
    obtain ⟨⟨t316, t317, t318⟩, A60, H⟩ := H
    replace H : ((spec_l01Below.f s0_0 t317 t318 6).bind fun bt319 => ((spec_l08Put.f k1 x3_1 t316 bt319.1).bind fun t322 => (spec_l08List.l0 k1 t322 (wrap64 (x4_1 + 1)) s0_0 bt319.2.1 bt319.2.2))) = some (r1, r2, r3) := H
    have A6 := qab.mk A60
    clear A60
    replace H := Option.bind_eq_some_iff.mp H
    obtain ⟨⟨t319, t320, t321⟩, A70, H⟩ := H
    replace H : ((spec_l08Put.f k1 x3_1 t316 t319).bind fun t322 => (spec_l08List.l0 k1 t322 (wrap64 (x4_1 + 1)) s0_0 t320 t321)) = some (r1, r2, r3) := H
    have A7 := qab.mk A70
    clear A70
    replace H := Option.bind_eq_some_iff.mp H
    obtain ⟨t322, A80, H⟩ := H
    replace H : (spec_l08List.l0 k1 t322 (wrap64 (x4_1 + 1)) s0_0 t320 t321) = some (r1, r2, r3) := H
    have A8 := qab.mk A80
    clear A80
    have H' := qab.mk H
    clear H
    go_wp2_with (first | ((with_reducible refine qaq (f := 96) rfl ?_); refine qbe (some 8) rfl rfl Try.func96 (by kernel_rfl) rfl #[.pointer (some ⟨g, 0, none⟩), .int .i64 9] rfl (by (try simp only [List.map_toArray, List.map_cons, List.map_nil]); first | done | rfl | (simp only [List.length_drop, List.length_take]; rfl)) ?_; (with_reducible refine (spec_l01Below.calls g s0_0 x1001_1 x1002_1 9 t313 t314 t315 w0 _ ?side1 ?side2 A4.out).mono ?_); (case side1 => repeat (first | (with_reducible first | exact HI0.out | apply IsS137.alloc | apply IsS137.drewN | apply IsS137.drew | apply IsS137.set_1 | apply IsS137.set_2) | exact HI0.out)); (case side2 => repeat (first | (with_reducible first | exact HB.out | apply qad | apply qaa | apply qac | refine qae ?_ (IsS137.ge HI0.out)) | exact HB.out)); rintro e w9 ⟨rfl, hi, hb, hk⟩; refine ⟨_, rfl, ?_⟩; have n0_ := qab.mk (Kd.qbb (Kd.qcr (IsS137.apart (show IsS137 w0 _ g s0_0 x1001_1 x1002_1 from by repeat (first | (with_reducible first | exact HI0.out | apply IsS137.alloc | apply IsS137.drewN | apply IsS137.drew | apply IsS137.set_1 | apply IsS137.set_2) | exact HI0.out)) (by (with_reducible repeat (first | apply Kd.qao | apply Kd.qan | apply Kd.qap)); exact HO_3.out) (by decide)) hk (fun _ h => h.2)) (fun _ h => h.1)); have n1_ := qab.mk (KeepBut.trans (by repeat (first | (with_reducible first | exact HK.out | apply KeepBut.set_ | apply qaw | apply qba | apply qax) | exact HK.out)) hk (.inl rfl)); have n2_ := qab.mk (hb); have n3_ := qab.mk (hi); clear HO_3; clear HK; clear HB; clear HI0; have HO_3 := n0_; have HK := n1_; have HB := n2_; have HI0 := n3_; clear n0_ n1_ n2_ n3_; (try clear hb); (try clear hb2); (try clear hk); (try clear hi)) | ((with_reducible refine qaq (f := 96) rfl ?_); refine qbe (some 14) rfl rfl Try.func96 (by kernel_rfl) rfl #[.pointer (some ⟨g, 0, none⟩), .int .i64 6] rfl (by (try simp only [List.map_toArray, List.map_cons, List.map_nil]); first | done | rfl | (simp only [List.length_drop, List.length_take]; rfl)) ?_; (with_reducible refine (spec_l01Below.calls g s0_0 t314 t315 6 t316 t317 t318 w0 _ ?side1 ?side2 A6.out).mono ?_); (case side1 => repeat (first | (with_reducible first | exact HI0.out | apply IsS137.alloc | apply IsS137.drewN | apply IsS137.drew | apply IsS137.set_1 | apply IsS137.set_2) | exact HI0.out)); (case side2 => repeat (first | (with_reducible first | exact HB.out | apply qad | apply qaa | apply qac | refine qae ?_ (IsS137.ge HI0.out)) | exact HB.out)); rintro e w10 ⟨rfl, hi, hb, hk⟩; refine ⟨_, rfl, ?_⟩; have n0_ := qab.mk (Kd.qbb (Kd.qcr (IsS137.apart (show IsS137 w0 _ g s0_0 t314 t315 from by repeat (first | (with_reducible first | exact HI0.out | apply IsS137.alloc | apply IsS137.drewN | apply IsS137.drew | apply IsS137.set_1 | apply IsS137.set_2) | exact HI0.out)) (by (with_reducible repeat (first | apply Kd.qao | apply Kd.qan | apply Kd.qap)); exact HO_3.out) (by decide)) hk (fun _ h => h.2)) (fun _ h => h.1)); have n1_ := qab.mk (KeepBut.trans (by repeat (first | (with_reducible first | exact HK.out | apply KeepBut.set_ | apply qaw | apply qba | apply qax) | exact HK.out)) hk (.inl rfl)); have n2_ := qab.mk (hb); have n3_ := qab.mk (hi); clear HO_3; clear HK; clear HB; clear HI0; have HO_3 := n0_; have HK := n1_; have HB := n2_; have HI0 := n3_; clear n0_ n1_ n2_ n3_; (try clear hb); (try clear hb2); (try clear hk); (try clear hi)) | ((with_reducible refine qaq (f := 96) rfl ?_); refine qbe (some 16) rfl rfl Try.func96 (by kernel_rfl) rfl #[.pointer (some ⟨g, 0, none⟩), .int .i64 6] rfl (by (try simp only [List.map_toArray, List.map_cons, List.map_nil]); first | done | rfl | (simp only [List.length_drop, List.length_take]; rfl)) ?_; (with_reducible refine (spec_l01Below.calls g s0_0 t317 t318 6 t319 t320 t321 w0 _ ?side1 ?side2 A7.out).mono ?_); (case side1 => repeat (first | (with_reducible first | exact HI0.out | apply IsS137.alloc | apply IsS137.drewN | apply IsS137.drew | apply IsS137.set_1 | apply IsS137.set_2) | exact HI0.out)); (case side2 => repeat (first | (with_reducible first | exact HB.out | apply qad | apply qaa | apply qac | refine qae ?_ (IsS137.ge HI0.out)) | exact HB.out)); rintro e w11 ⟨rfl, hi, hb, hk⟩; refine ⟨_, rfl, ?_⟩; have n0_ := qab.mk (Kd.qbb (Kd.qcr (IsS137.apart (show IsS137 w0 _ g s0_0 t317 t318 from by repeat (first | (with_reducible first | exact HI0.out | apply IsS137.alloc | apply IsS137.drewN | apply IsS137.drew | apply IsS137.set_1 | apply IsS137.set_2) | exact HI0.out)) (by (with_reducible repeat (first | apply Kd.qao | apply Kd.qan | apply Kd.qap)); exact HO_3.out) (by decide)) hk (fun _ h => h.2)) (fun _ h => h.1)); have n1_ := qab.mk (KeepBut.trans (by repeat (first | (with_reducible first | exact HK.out | apply KeepBut.set_ | apply qaw | apply qba | apply qax) | exact HK.out)) hk (.inl rfl)); have n2_ := qab.mk (hb); have n3_ := qab.mk (hi); clear HO_3; clear HK; clear HB; clear HI0; have HO_3 := n0_; have HK := n1_; have HB := n2_; have HI0 := n3_; clear n0_ n1_ n2_ n3_; (try clear hb); (try clear hb2); (try clear hk); (try clear hi); obtain ⟨Ao12, co12, eo12⟩ := Kd.qbj HO_3.out; subst eo12) | ((with_reducible refine qaq (f := 86) rfl ?_); refine qbe (some 18) rfl rfl Try.func86 (by kernel_rfl) rfl #[.slice Ao12 x3_1.length co12, .agg #[.int .i64 t316, .int .i64 t319]] rfl (by (try simp only [List.map_toArray, List.map_cons, List.map_nil]); first | done | rfl | (simp only [List.length_drop, List.length_take]; rfl)) ?_; (with_reducible refine (spec_l08Put.calls k1 (fun k_ => some k_ = (.slice Ao12 x3_1.length co12 : Value).ownBlock) (.slice Ao12 x3_1.length co12) x3_1 t316 t319 t322 w0 _ ?side1 ?side2 A8.out).mono ?_); (case side1 => repeat (first | (with_reducible first | exact HB.out | apply qad | apply qaa | apply qac | refine qae ?_ (IsS137.ge HI0.out)) | exact HB.out)); (case side2 => exact Kd.qbm (Kd.qdo rfl HO_3.out) HL.out); rintro e w13 ⟨v323, rfl, ho0, hb, hkp⟩; refine ⟨_, rfl, ?_⟩; have n0_ := qab.mk (IsS137.kept (by repeat (first | (with_reducible first | exact HI0.out | apply IsS137.alloc | apply IsS137.drewN | apply IsS137.drew | apply IsS137.set_1 | apply IsS137.set_2) | exact HI0.out)) hkp (fun hs_ => (fun e_ => (IsS137.qcv HI0.out HO_3.out (by decide)) e_) hs_)); have n1_ := qab.mk (Kd.qbb (ok' := fun k_ => True) (Kd.qdq (d := k83) (b := w0.heap.size) (b' := w.heap.size) (fun _ _ _ _ h_ => h_) ho0 (fun k_ e_ => Or.elim (ho0.1 k_ e_) (fun hs_ => (fun e_ => Kd.qbl HO_3.out k_ e_.symm) hs_) (fun hn_ => Nat.le_trans (qbu (w := w) (g := g) (row := none) (by repeat (first | (with_reducible first | exact HK.out | apply KeepBut.set_ | apply qaw | apply qba | apply qax) | exact HK.out))) hn_))) (fun k_ hk_ => trivial)); have n2_ := qab.mk (Kept.keepG (by repeat (first | (with_reducible first | exact HK.out | apply KeepBut.set_ | apply qaw | apply qba | apply qax) | exact HK.out)) hkp (fun k_ hs_ => (fun e_ => .inr (Kd.qbl HO_3.out k_ e_.symm)) hs_)); have n3_ := qab.mk (hb); clear HI0; clear HK; clear HB; clear HO_3; have HI0 := n0_; have HO324 := n1_; have HK := n2_; have HB := n3_; clear n0_ n1_ n2_ n3_; (try clear hb); (try clear hkp); (try clear ho0)))
    go_roundg k1
    case measure => have := HK1.out; omega
    case rel => exact ⟨(t322), (wrap64 (x4_1 + 1)), (t320), (t321), (by first | rfl | (simp; done) | (simp [*]; done)), H', ⟨by have := HK1.out; omega⟩, ⟨by (with_reducible repeat (first | apply Kd.qao | apply Kd.qan | apply Kd.qap)); exact HO324.out⟩, ⟨by repeat (first | (with_reducible first | exact HI0.out | apply IsS137.alloc | apply IsS137.drewN | apply IsS137.drew | apply IsS137.set_1 | apply IsS137.set_2) | exact HI0.out)⟩, ⟨by repeat (first | (with_reducible first | exact HK.out | apply KeepBut.set_ | apply qaw | apply qba | apply qax) | exact HK.out)⟩, ⟨by repeat (first | (with_reducible first | exact HB.out | apply qad | apply qaa | apply qac | refine qae ?_ (IsS137.ge HI0.out)) | exact HB.out)⟩⟩
   ·rw [if_neg c5] at H
    have c5b0 : decide (x4_1 < t313) = false := decide_eq_false c5
    clear c5
    simp only [Option.some.injEq, Prod.mk.injEq] at H
    obtain ⟨rfl, rfl, rfl⟩ := H
    go_wp2_with (first | ((with_reducible refine qaq (f := 96) rfl ?_); refine qbe (some 8) rfl rfl Try.func96 (by kernel_rfl) rfl #[.pointer (some ⟨g, 0, none⟩), .int .i64 9] rfl (by (try simp only [List.map_toArray, List.map_cons, List.map_nil]); first | done | rfl | (simp only [List.length_drop, List.length_take]; rfl)) ?_; (with_reducible refine (spec_l01Below.calls g s0_0 x1001_1 x1002_1 9 t313 t314 t315 w0 _ ?side1 ?side2 A4.out).mono ?_); (case side1 => repeat (first | (with_reducible first | exact HI0.out | apply IsS137.alloc | apply IsS137.drewN | apply IsS137.drew | apply IsS137.set_1 | apply IsS137.set_2) | exact HI0.out)); (case side2 => repeat (first | (with_reducible first | exact HB.out | apply qad | apply qaa | apply qac | refine qae ?_ (IsS137.ge HI0.out)) | exact HB.out)); rintro e w14 ⟨rfl, hi, hb, hk⟩; refine ⟨_, rfl, ?_⟩; have n0_ := qab.mk (Kd.qbb (Kd.qcr (IsS137.apart (show IsS137 w0 _ g s0_0 x1001_1 x1002_1 from by repeat (first | (with_reducible first | exact HI0.out | apply IsS137.alloc | apply IsS137.drewN | apply IsS137.drew | apply IsS137.set_1 | apply IsS137.set_2) | exact HI0.out)) (by (with_reducible repeat (first | apply Kd.qao | apply Kd.qan | apply Kd.qap)); exact HO_3.out) (by decide)) hk (fun _ h => h.2)) (fun _ h => h.1)); have n1_ := qab.mk (KeepBut.trans (by repeat (first | (with_reducible first | exact HK.out | apply KeepBut.set_ | apply qaw | apply qba | apply qax) | exact HK.out)) hk (.inl rfl)); have n2_ := qab.mk (hb); have n3_ := qab.mk (hi); clear HO_3; clear HK; clear HB; clear HI0; have HO_3 := n0_; have HK := n1_; have HB := n2_; have HI0 := n3_; clear n0_ n1_ n2_ n3_; (try clear hb); (try clear hb2); (try clear hk); (try clear hi)))
    go_ret
    exact ⟨_, by first | rfl | (simp [errW_none, errW_some] <;> rfl) | (simp [*, errW_none, errW_some] <;> rfl), by (with_reducible repeat (first | apply Kd.qao | apply Kd.qan | apply Kd.qap)); exact HO_3.out, by repeat (first | (with_reducible first | exact HI0.out | apply IsS137.alloc | apply IsS137.drewN | apply IsS137.drew | apply IsS137.set_1 | apply IsS137.set_2) | exact HI0.out), by repeat (first | (with_reducible first | exact HB.out | apply qad | apply qaa | apply qac | refine qae ?_ (IsS137.ge HI0.out)) | exact HB.out), by repeat (first | (with_reducible first | exact HK.out | apply KeepBut.set_ | apply qaw | apply qba | apply qax) | exact HK.out)⟩


/-! ### spec_DrawDepends: function 69 -/
def spec_DrawDepends.f (k : Nat) (l0 : List Int) : Option ((List (S83))) := (spec_l01New.f k l0).bind fun bt325 => ((spec_l08List.f k bt325.1 bt325.2.1 bt325.2.2).bind fun bt329 => (some bt329.1))
theorem spec_DrawDepends.mono : ∀ a0 k, LeO (spec_DrawDepends.f k a0) (spec_DrawDepends.f (k + 1) a0) := by
 intro a0 k
 unfold spec_DrawDepends.f
 repeat' first
   | (with_reducible exact spec_l01New.mono _ _)
   | (with_reducible exact spec_l08List.mono _ _ _ _)
   | (with_reducible exact LeO.refl _)
   | (with_reducible exact LeO.none _)
   | (with_reducible refine LeO.ite ?_ ?_)
   | (with_reducible refine LeO.bind ?_ (fun _ => ?_))
   | exact spec_l01New.mono _ _
   | exact spec_l08List.mono _ _ _ _
   | exact LeO.none _
   | refine LeO.ite ?_ ?_
   | refine LeO.bind ?_ (fun _ => ?_)
set_option maxHeartbeats 8000000 in
set_option maxRecDepth 100000 in
theorem spec_DrawDepends.calls (k : Nat) (A0 : Option Addr) (c0 : Nat) (l0 : List Int) (r : List (S83)) (w : World) (hr0 : Kd.C (Kd.int .u8) w A0 l0.length l0) (hc0 : l0.length ≤ c0) (h : spec_DrawDepends.f k l0 = some r) :
  Calls Try.prog 69 #[.slice A0 l0.length c0] w fun e w' => ∃ v0_ : Value, e = .returned (v0_) ∧ Kd.R k83 83 w' w.heap.size (fun _ => True) v0_ r ∧ Below w.heap.size w w' := by
 have HR0 := qab.mk hr0
 have HC0 := qab.mk hc0
 clear hr0 hc0
 have HB := qab.mk (Below.refl w.heap.size w)
 have H : ((spec_l01New.f k l0).bind fun bt325 => ((spec_l08List.f k bt325.1 bt325.2.1 bt325.2.2).bind fun bt329 => (some bt329.1))) = some r := h
 clear h
 replace H := Option.bind_eq_some_iff.mp H
 obtain ⟨⟨t325, t326, t327⟩, A20, H⟩ := H
 try dsimp only at H
 have A2 := qab.mk A20
 clear A20
 replace H := Option.bind_eq_some_iff.mp H
 obtain ⟨⟨t329, t332, t333⟩, A30, H⟩ := H
 try dsimp only at H
 have A3 := qab.mk A30
 clear A30
 obtain rfl := Option.some.inj H
 go_enter Try.func69, Try.ntmps69
 go_wp2_with (first | ((with_reducible refine qaq (f := 95) rfl ?_); refine qbe (some 4) rfl rfl Try.func95 (by kernel_rfl) rfl #[.slice A0 l0.length c0] rfl (by (try simp only [List.map_toArray, List.map_cons, List.map_nil]); first | done | rfl | (simp only [List.length_drop, List.length_take]; rfl)) ?_; (with_reducible refine (spec_l01New.calls k _ _ l0 t325 t326 t327 w _ ?side1 ?side2 ?side3 A2.out).mono ?_); (case side1 => repeat (first | (with_reducible first | exact HB.out | apply qad | apply qaa | apply qac) | exact HB.out)); (case side2 => exact HR0.out); (case side3 => exact HC0.out); rintro e w4 ⟨g328, rfl, hi, hb, hb2⟩; refine ⟨_, rfl, ?_⟩; have n0_ := qab.mk (hb); have n1_ := qab.mk (hi); clear HB; have HB := n0_; have HI328 := n1_; clear n0_ n1_; (try clear hb); (try clear hb2); (try clear hk); (try clear hi)) | ((with_reducible refine qaq (f := 123) rfl ?_); refine qbe (some 5) rfl rfl Try.func123 (by kernel_rfl) rfl #[.pointer (some ⟨g328, 0, none⟩)] rfl (by (try simp only [List.map_toArray, List.map_cons, List.map_nil]); first | done | rfl | (simp only [List.length_drop, List.length_take]; rfl)) ?_; (with_reducible refine (spec_l08List.calls k g328 t325 t326 t327 t329 t332 t333 w _ ?side1 ?side2 A3.out).mono ?_); (case side1 => repeat (first | (with_reducible first | exact HI328.out | apply IsS137.alloc | apply IsS137.drewN | apply IsS137.drew | apply IsS137.set_1 | apply IsS137.set_2) | exact HI328.out)); (case side2 => repeat (first | (with_reducible first | exact HB.out | apply qad | apply qaa | apply qac | refine qae ?_ (IsS137.ge HI328.out)) | exact HB.out)); rintro e w5 ⟨v330, rfl, ho0, hi, hb, hk⟩; refine ⟨_, rfl, ?_⟩; have n0_ := qab.mk (Kd.qbm ho0 (qal (by repeat (first | (with_reducible first | exact HB.out | apply qad | apply qaa | apply qac | refine qae ?_ (IsS137.ge HI328.out)) | exact HB.out)))); have n1_ := qab.mk (hb); have n2_ := qab.mk (hi); clear HB; clear HI328; have HO331 := n0_; have HB := n1_; have HI328 := n2_; clear n0_ n1_ n2_; (try clear hb); (try clear hb2); (try clear hk); (try clear hi); (try clear ho0)))
 go_ret
 exact ⟨_, by first | rfl | (simp [errW_none, errW_some] <;> rfl) | (simp [*, errW_none, errW_some] <;> rfl), by (with_reducible repeat (first | apply Kd.qao | apply Kd.qan | apply Kd.qap)); exact HO331.out, by repeat (first | (with_reducible first | exact HB.out | apply qad | apply qaa | apply qac | refine qae ?_ (IsS137.ge HI328.out)) | exact HB.out)⟩


end Go.Proofs.Ytmfkgnfjjfnfmaa.XV
