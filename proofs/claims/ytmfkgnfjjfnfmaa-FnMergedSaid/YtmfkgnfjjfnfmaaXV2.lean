/- What is proved: contracts of functions of the program (each: where its Lean function answers, the call returns that answer); written by a program of this session. -/
import Derived.Test.YtmfkgnfjjfnfmaaXV0
namespace Go.Proofs.Ytmfkgnfjjfnfmaa.XV
open Go.RowKit Go.Proofs.YtmfkgnfjjfnfmaaW.PrintWords Go.Proofs.YtmfkgnfjjfnfmaaW.PrintLast Go.Proofs.YtmfkgnfjjfnfmaaW.PrintMore
attribute [local go_sem] qcg qce qck qcj qbz qby qcf qcd   -- for this text's walks alone
set_option linter.unusedVariables false
set_option linter.unusedSimpArgs false

/-! ### impl_inside: function 98 -/
def impl_inside.f (a0 : Int) (a1 : Int) (a2 : Int) : Option (Bool) := if a1 ≤ a0 then (some (decide (a0 ≤ a2))) else (some false)
set_option maxHeartbeats 8000000 in
set_option maxRecDepth 100000 in
theorem impl_inside.calls (a0 : Int) (a1 : Int) (a2 : Int) (r : Bool) (w : World) (h : impl_inside.f a0 a1 a2 = some r) :
  Calls Try.prog 98 #[.int .i64 a0, .int .i64 a1, .int .i64 a2] w fun e w' => e = .returned (.bool r) ∧ Drawn0 w w' := by
 have H : (if a1 ≤ a0 then (some (decide (a0 ≤ a2))) else (some false)) = some r := h
 clear h
 by_cases c4 : a1 ≤ a0
 ·rw [if_pos c4] at H
  have c4b0 : decide (a1 ≤ a0) = true := decide_eq_true c4
  clear c4
  obtain rfl := Option.some.inj H
  go_enter Try.func98, Try.ntmps98
  go_wp2
  go_ret
  exact ⟨by first | rfl | (simp; done) | (simp [*]; done), by repeat (first | exact Drawn0.refl _ | apply Drawn0.step)⟩
 ·rw [if_neg c4] at H
  have c4b0 : decide (a1 ≤ a0) = false := decide_eq_false c4
  clear c4
  obtain rfl := Option.some.inj H
  go_enter Try.func98, Try.ntmps98
  go_wp2
  go_ret
  exact ⟨by first | rfl | (simp; done) | (simp [*]; done), by repeat (first | exact Drawn0.refl _ | apply Drawn0.step)⟩


/-! ### impl_GridOk: function 97 -/
def impl_GridOk.f (a0_0 : Int) (a0_1 : Int) : Option (Bool) := (impl_inside.f a0_0 1 4).bind fun t102 => (if t102 = true then ((impl_inside.f a0_1 1 4).bind fun t103 => (some t103)) else (some false))
set_option maxHeartbeats 8000000 in
set_option maxRecDepth 100000 in
theorem impl_GridOk.calls (a0_0 : Int) (a0_1 : Int) (r : Bool) (w : World) (h : impl_GridOk.f a0_0 a0_1 = some r) :
  Calls Try.prog 97 #[.agg #[.int .i64 a0_0, .int .i64 a0_1]] w fun e w' => e = .returned (.bool r) ∧ Below w.heap.size w w' := by
 have hu32 := Try.underlying32
 have HB := qab.mk (Below.refl w.heap.size w)
 have H : ((impl_inside.f a0_0 1 4).bind fun t102 => (if t102 = true then ((impl_inside.f a0_1 1 4).bind fun t103 => (some t103)) else (some false))) = some r := h
 clear h
 replace H := Option.bind_eq_some_iff.mp H
 obtain ⟨t102, A20, H⟩ := H
 try dsimp only at H
 have A2 := qab.mk A20
 clear A20
 by_cases c3 : t102 = true
 ·subst c3
  have H1 := H
  rw [if_pos rfl] at H1
  clear H
  have H := H1
  clear H1
  replace H := Option.bind_eq_some_iff.mp H
  obtain ⟨t103, A40, H⟩ := H
  try dsimp only at H
  have A4 := qab.mk A40
  clear A40
  obtain rfl := Option.some.inj H
  go_enter Try.func97, Try.ntmps97
  go_wp2_with (first | ((with_reducible refine qas (N := 1) rfl ?_); refine qar ?hg (N := 1) ?hd (cs := #[.int .i64 a0_0, .int .i64 a0_1]) (t := 32) ?hr ?_; (case hd => rfl); (case hg => rfl); (case hr => first | (go_simp; done) | (go_simp; rfl)); intro gb101 hg w5 hbox hb; have n0_ := qab.mk (qak (by repeat (first | (with_reducible first | exact HB.out | apply qad | apply qaa | apply qac) | exact HB.out)) hb); have n1_ := qab.mk (hbox); have n2_ := qab.mk ((by rw [hg]; exact (qal (by repeat (first | (with_reducible first | exact HB.out | apply qad | apply qaa | apply qac) | exact HB.out))) : w.heap.size ≤ gb101)); have n3_ := qab.mk ((by rw [hg]; exact (qal (by repeat (first | (with_reducible first | exact HB.out | apply qad | apply qaa | apply qac) | exact HB.out))) : w.heap.size ≤ gb101)); clear HB; have HB := n0_; have BK101 := n1_; have GW101 := n2_; have GE101 := n3_; clear n0_ n1_ n2_ n3_; clear hb hbox hg; have hcz6_0 : w5.cell? ⟨gb101, 0, none⟩ = some (.int .i64 a0_0) := (qai BK101.out 0).trans rfl; have hcz6_1 : w5.cell? ⟨gb101, 1, none⟩ = some (.int .i64 a0_1) := (qai BK101.out 1).trans rfl; have hfz6_0 := qah BK101.out 0; have hfz6_1 := qah BK101.out 1) | ((with_reducible refine qaq (f := 98) rfl ?_); refine qbe (some 5) rfl rfl Try.func98 (by kernel_rfl) rfl #[.int .i64 a0_0, .int .i64 1, .int .i64 4] rfl (by (try simp only [List.map_toArray, List.map_cons, List.map_nil]); first | done | rfl | (simp only [List.length_drop, List.length_take]; rfl)) ?_; (with_reducible refine (impl_inside.calls a0_0 1 4 true _ A2.out).mono ?_); rintro e w' ⟨rfl, ⟨nd, rfl⟩⟩; refine ⟨_, rfl, ?_⟩) | (go_at_call 98; (with_reducible refine (impl_inside.calls a0_1 1 4 t103 _ A4.out).mono ?_); rintro e w' ⟨rfl, ⟨nd, rfl⟩⟩))
  go_ret
  exact ⟨by first | rfl | (simp [errW_none, errW_some] <;> rfl) | (simp [*, errW_none, errW_some] <;> rfl), by repeat (first | (with_reducible first | exact HB.out | apply qad | apply qaa | apply qac | refine qae ?_ GE101.out) | exact HB.out)⟩
 ·replace c3 := Bool.eq_false_iff.mpr c3
  subst c3
  have H1 := H
  rw [if_neg (show ¬ (false = true) by decide)] at H1
  clear H
  have H := H1
  clear H1
  obtain rfl := Option.some.inj H
  go_enter Try.func97, Try.ntmps97
  go_wp2_with (first | ((with_reducible refine qas (N := 1) rfl ?_); refine qar ?hg (N := 1) ?hd (cs := #[.int .i64 a0_0, .int .i64 a0_1]) (t := 32) ?hr ?_; (case hd => rfl); (case hg => rfl); (case hr => first | (go_simp; done) | (go_simp; rfl)); intro gb101 hg w7 hbox hb; have n0_ := qab.mk (qak (by repeat (first | (with_reducible first | exact HB.out | apply qad | apply qaa | apply qac) | exact HB.out)) hb); have n1_ := qab.mk (hbox); have n2_ := qab.mk ((by rw [hg]; exact (qal (by repeat (first | (with_reducible first | exact HB.out | apply qad | apply qaa | apply qac) | exact HB.out))) : w.heap.size ≤ gb101)); have n3_ := qab.mk ((by rw [hg]; exact (qal (by repeat (first | (with_reducible first | exact HB.out | apply qad | apply qaa | apply qac) | exact HB.out))) : w.heap.size ≤ gb101)); clear HB; have HB := n0_; have BK101 := n1_; have GW101 := n2_; have GE101 := n3_; clear n0_ n1_ n2_ n3_; clear hb hbox hg; have hcz8_0 : w7.cell? ⟨gb101, 0, none⟩ = some (.int .i64 a0_0) := (qai BK101.out 0).trans rfl; have hcz8_1 : w7.cell? ⟨gb101, 1, none⟩ = some (.int .i64 a0_1) := (qai BK101.out 1).trans rfl; have hfz8_0 := qah BK101.out 0; have hfz8_1 := qah BK101.out 1) | ((with_reducible refine qaq (f := 98) rfl ?_); refine qbe (some 5) rfl rfl Try.func98 (by kernel_rfl) rfl #[.int .i64 a0_0, .int .i64 1, .int .i64 4] rfl (by (try simp only [List.map_toArray, List.map_cons, List.map_nil]); first | done | rfl | (simp only [List.length_drop, List.length_take]; rfl)) ?_; (with_reducible refine (impl_inside.calls a0_0 1 4 false _ A2.out).mono ?_); rintro e w' ⟨rfl, ⟨nd, rfl⟩⟩; refine ⟨_, rfl, ?_⟩))
  go_ret
  exact ⟨by first | rfl | (simp [errW_none, errW_some] <;> rfl) | (simp [*, errW_none, errW_some] <;> rfl), by repeat (first | (with_reducible first | exact HB.out | apply qad | apply qaa | apply qac | refine qae ?_ GE101.out) | exact HB.out)⟩


/-! ### impl_NodeCount: function 99 -/
def impl_NodeCount.f (a0_0 : Int) (a0_1 : Int) : Option (Int) := (impl_GridOk.f a0_0 a0_1).bind fun t105 => (if t105 = true then (some (wrap64 (a0_0 * a0_1))) else (some 0))
set_option maxHeartbeats 8000000 in
set_option maxRecDepth 100000 in
theorem impl_NodeCount.calls (a0_0 : Int) (a0_1 : Int) (r : Int) (w : World) (h : impl_NodeCount.f a0_0 a0_1 = some r) :
  Calls Try.prog 99 #[.agg #[.int .i64 a0_0, .int .i64 a0_1]] w fun e w' => e = .returned (.int .i64 r) ∧ Below w.heap.size w w' := by
 have hu32 := Try.underlying32
 have HB := qab.mk (Below.refl w.heap.size w)
 have H : ((impl_GridOk.f a0_0 a0_1).bind fun t105 => (if t105 = true then (some (wrap64 (a0_0 * a0_1))) else (some 0))) = some r := h
 clear h
 replace H := Option.bind_eq_some_iff.mp H
 obtain ⟨t105, A20, H⟩ := H
 try dsimp only at H
 have A2 := qab.mk A20
 clear A20
 by_cases c3 : t105 = true
 ·subst c3
  have H1 := H
  rw [if_pos rfl] at H1
  clear H
  have H := H1
  clear H1
  obtain rfl := Option.some.inj H
  go_enter Try.func99, Try.ntmps99
  go_wp2_with (first | ((with_reducible refine qas (N := 1) rfl ?_); refine qar ?hg (N := 1) ?hd (cs := #[.int .i64 a0_0, .int .i64 a0_1]) (t := 32) ?hr ?_; (case hd => rfl); (case hg => rfl); (case hr => first | (go_simp; done) | (go_simp; rfl)); intro gb104 hg w4 hbox hb; have n0_ := qab.mk (qak (by repeat (first | (with_reducible first | exact HB.out | apply qad | apply qaa | apply qac) | exact HB.out)) hb); have n1_ := qab.mk (hbox); have n2_ := qab.mk ((by rw [hg]; exact (qal (by repeat (first | (with_reducible first | exact HB.out | apply qad | apply qaa | apply qac) | exact HB.out))) : w.heap.size ≤ gb104)); have n3_ := qab.mk ((by rw [hg]; exact (qal (by repeat (first | (with_reducible first | exact HB.out | apply qad | apply qaa | apply qac) | exact HB.out))) : w.heap.size ≤ gb104)); clear HB; have HB := n0_; have BK104 := n1_; have GW104 := n2_; have GE104 := n3_; clear n0_ n1_ n2_ n3_; clear hb hbox hg; have hcz5_0 : w4.cell? ⟨gb104, 0, none⟩ = some (.int .i64 a0_0) := (qai BK104.out 0).trans rfl; have hcz5_1 : w4.cell? ⟨gb104, 1, none⟩ = some (.int .i64 a0_1) := (qai BK104.out 1).trans rfl; have hfz5_0 := qah BK104.out 0; have hfz5_1 := qah BK104.out 1) | ((with_reducible refine qaq (f := 97) rfl ?_); refine qbe (some 4) rfl rfl Try.func97 (by kernel_rfl) rfl #[.agg #[.int .i64 a0_0, .int .i64 a0_1]] rfl (by (try simp only [List.map_toArray, List.map_cons, List.map_nil]); first | done | rfl | (simp only [List.length_drop, List.length_take]; rfl)) ?_; (with_reducible refine (impl_GridOk.calls a0_0 a0_1 true _ A2.out).mono ?_); rintro e w6 ⟨rfl, hb⟩; refine ⟨_, rfl, ?_⟩; have n0_ := qab.mk (qam (g := gb104) (o := .cells #[.int .i64 a0_0, .int .i64 a0_1] 32 (0, 0)) (by (with_reducible repeat (first | refine qag ?_ _ | refine qaj ?_ | refine qaf ?_ _)); exact BK104.out) hb); have n1_ := qab.mk (qak (by repeat (first | (with_reducible first | exact HB.out | apply qad | apply qaa | apply qac | refine qae ?_ GE104.out) | exact HB.out)) hb); clear BK104; clear HB; have BK104 := n0_; have HB := n1_; clear n0_ n1_; (try clear hb); (try clear hb2); (try clear hk); (try clear hi); have hcz7_0 : w6.cell? ⟨gb104, 0, none⟩ = some (.int .i64 a0_0) := (qai BK104.out 0).trans rfl; have hcz7_1 : w6.cell? ⟨gb104, 1, none⟩ = some (.int .i64 a0_1) := (qai BK104.out 1).trans rfl; have hfz7_0 := qah BK104.out 0; have hfz7_1 := qah BK104.out 1))
  go_ret
  exact ⟨by first | rfl | (simp [errW_none, errW_some] <;> rfl) | (simp [*, errW_none, errW_some] <;> rfl), by repeat (first | (with_reducible first | exact HB.out | apply qad | apply qaa | apply qac | refine qae ?_ GE104.out) | exact HB.out)⟩
 ·replace c3 := Bool.eq_false_iff.mpr c3
  subst c3
  have H1 := H
  rw [if_neg (show ¬ (false = true) by decide)] at H1
  clear H
  have H := H1
  clear H1
  obtain rfl := Option.some.inj H
  go_enter Try.func99, Try.ntmps99
  go_wp2_with (first | ((with_reducible refine qas (N := 1) rfl ?_); refine qar ?hg (N := 1) ?hd (cs := #[.int .i64 a0_0, .int .i64 a0_1]) (t := 32) ?hr ?_; (case hd => rfl); (case hg => rfl); (case hr => first | (go_simp; done) | (go_simp; rfl)); intro gb104 hg w8 hbox hb; have n0_ := qab.mk (qak (by repeat (first | (with_reducible first | exact HB.out | apply qad | apply qaa | apply qac) | exact HB.out)) hb); have n1_ := qab.mk (hbox); have n2_ := qab.mk ((by rw [hg]; exact (qal (by repeat (first | (with_reducible first | exact HB.out | apply qad | apply qaa | apply qac) | exact HB.out))) : w.heap.size ≤ gb104)); have n3_ := qab.mk ((by rw [hg]; exact (qal (by repeat (first | (with_reducible first | exact HB.out | apply qad | apply qaa | apply qac) | exact HB.out))) : w.heap.size ≤ gb104)); clear HB; have HB := n0_; have BK104 := n1_; have GW104 := n2_; have GE104 := n3_; clear n0_ n1_ n2_ n3_; clear hb hbox hg; have hcz9_0 : w8.cell? ⟨gb104, 0, none⟩ = some (.int .i64 a0_0) := (qai BK104.out 0).trans rfl; have hcz9_1 : w8.cell? ⟨gb104, 1, none⟩ = some (.int .i64 a0_1) := (qai BK104.out 1).trans rfl; have hfz9_0 := qah BK104.out 0; have hfz9_1 := qah BK104.out 1) | ((with_reducible refine qaq (f := 97) rfl ?_); refine qbe (some 4) rfl rfl Try.func97 (by kernel_rfl) rfl #[.agg #[.int .i64 a0_0, .int .i64 a0_1]] rfl (by (try simp only [List.map_toArray, List.map_cons, List.map_nil]); first | done | rfl | (simp only [List.length_drop, List.length_take]; rfl)) ?_; (with_reducible refine (impl_GridOk.calls a0_0 a0_1 false _ A2.out).mono ?_); rintro e w10 ⟨rfl, hb⟩; refine ⟨_, rfl, ?_⟩; have n0_ := qab.mk (qam (g := gb104) (o := .cells #[.int .i64 a0_0, .int .i64 a0_1] 32 (0, 0)) (by (with_reducible repeat (first | refine qag ?_ _ | refine qaj ?_ | refine qaf ?_ _)); exact BK104.out) hb); have n1_ := qab.mk (qak (by repeat (first | (with_reducible first | exact HB.out | apply qad | apply qaa | apply qac | refine qae ?_ GE104.out) | exact HB.out)) hb); clear BK104; clear HB; have BK104 := n0_; have HB := n1_; clear n0_ n1_; (try clear hb); (try clear hb2); (try clear hk); (try clear hi)))
  go_ret
  exact ⟨by first | rfl | (simp [errW_none, errW_some] <;> rfl) | (simp [*, errW_none, errW_some] <;> rfl), by repeat (first | (with_reducible first | exact HB.out | apply qad | apply qaa | apply qac | refine qae ?_ GE104.out) | exact HB.out)⟩


/-! ### impl_isNode: function 108 -/
def impl_isNode.f (a0_0 : Int) (a0_1 : Int) (a1 : Int) : Option (Bool) := (impl_NodeCount.f a0_0 a0_1).bind fun t107 => ((impl_inside.f a1 0 (wrap64 (t107 - 1))).bind fun t108 => (some t108))
set_option maxHeartbeats 8000000 in
set_option maxRecDepth 100000 in
theorem impl_isNode.calls (a0_0 : Int) (a0_1 : Int) (a1 : Int) (r : Bool) (w : World) (h : impl_isNode.f a0_0 a0_1 a1 = some r) :
  Calls Try.prog 108 #[.agg #[.int .i64 a0_0, .int .i64 a0_1], .int .i64 a1] w fun e w' => e = .returned (.bool r) ∧ Below w.heap.size w w' := by
 have hu32 := Try.underlying32
 have HB := qab.mk (Below.refl w.heap.size w)
 have H : ((impl_NodeCount.f a0_0 a0_1).bind fun t107 => ((impl_inside.f a1 0 (wrap64 (t107 - 1))).bind fun t108 => (some t108))) = some r := h
 clear h
 replace H := Option.bind_eq_some_iff.mp H
 obtain ⟨t107, A30, H⟩ := H
 try dsimp only at H
 have A3 := qab.mk A30
 clear A30
 replace H := Option.bind_eq_some_iff.mp H
 obtain ⟨t108, A40, H⟩ := H
 try dsimp only at H
 have A4 := qab.mk A40
 clear A40
 obtain rfl := Option.some.inj H
 go_enter Try.func108, Try.ntmps108
 go_wp2_with (first | ((with_reducible refine qas (N := 2) rfl ?_); refine qar ?hg (N := 2) ?hd (cs := #[.int .i64 a0_0, .int .i64 a0_1]) (t := 32) ?hr ?_; (case hd => rfl); (case hg => rfl); (case hr => first | (go_simp; done) | (go_simp; rfl)); intro gb106 hg w5 hbox hb; have n0_ := qab.mk (qak (by repeat (first | (with_reducible first | exact HB.out | apply qad | apply qaa | apply qac) | exact HB.out)) hb); have n1_ := qab.mk (hbox); have n2_ := qab.mk ((by rw [hg]; exact (qal (by repeat (first | (with_reducible first | exact HB.out | apply qad | apply qaa | apply qac) | exact HB.out))) : w.heap.size ≤ gb106)); have n3_ := qab.mk ((by rw [hg]; exact (qal (by repeat (first | (with_reducible first | exact HB.out | apply qad | apply qaa | apply qac) | exact HB.out))) : w.heap.size ≤ gb106)); clear HB; have HB := n0_; have BK106 := n1_; have GW106 := n2_; have GE106 := n3_; clear n0_ n1_ n2_ n3_; clear hb hbox hg; have hcz6_0 : w5.cell? ⟨gb106, 0, none⟩ = some (.int .i64 a0_0) := (qai BK106.out 0).trans rfl; have hcz6_1 : w5.cell? ⟨gb106, 1, none⟩ = some (.int .i64 a0_1) := (qai BK106.out 1).trans rfl; have hfz6_0 := qah BK106.out 0; have hfz6_1 := qah BK106.out 1) | ((with_reducible refine qaq (f := 99) rfl ?_); refine qbe (some 7) rfl rfl Try.func99 (by kernel_rfl) rfl #[.agg #[.int .i64 a0_0, .int .i64 a0_1]] rfl (by (try simp only [List.map_toArray, List.map_cons, List.map_nil]); first | done | rfl | (simp only [List.length_drop, List.length_take]; rfl)) ?_; (with_reducible refine (impl_NodeCount.calls a0_0 a0_1 t107 _ A3.out).mono ?_); rintro e w7 ⟨rfl, hb⟩; refine ⟨_, rfl, ?_⟩; have n0_ := qab.mk (qam (g := gb106) (o := .cells #[.int .i64 a0_0, .int .i64 a0_1] 32 (0, 0)) (by (with_reducible repeat (first | refine qag ?_ _ | refine qaj ?_ | refine qaf ?_ _)); exact BK106.out) hb); have n1_ := qab.mk (qak (by repeat (first | (with_reducible first | exact HB.out | apply qad | apply qaa | apply qac | refine qae ?_ GE106.out) | exact HB.out)) hb); clear BK106; clear HB; have BK106 := n0_; have HB := n1_; clear n0_ n1_; (try clear hb); (try clear hb2); (try clear hk); (try clear hi)) | ((with_reducible refine qaq (f := 98) rfl ?_); refine qbe (some 9) rfl rfl Try.func98 (by kernel_rfl) rfl #[.int .i64 a1, .int .i64 0, .int .i64 (wrap64 (t107 - 1))] rfl (by (try simp only [List.map_toArray, List.map_cons, List.map_nil]); first | done | rfl | (simp only [List.length_drop, List.length_take]; rfl)) ?_; (with_reducible refine (impl_inside.calls a1 0 (wrap64 (t107 - 1)) t108 _ A4.out).mono ?_); rintro e w' ⟨rfl, ⟨nd, rfl⟩⟩; refine ⟨_, rfl, ?_⟩))
 go_ret
 exact ⟨by first | rfl | (simp [errW_none, errW_some] <;> rfl) | (simp [*, errW_none, errW_some] <;> rfl), by repeat (first | (with_reducible first | exact HB.out | apply qad | apply qaa | apply qac | refine qae ?_ GE106.out) | exact HB.out)⟩


/-! ### impl_NodeAt: function 118 -/
def impl_NodeAt.f (a0_0 : Int) (a0_1 : Int) (a1 : Int) (a2 : Int) : Option (Int) := (impl_GridOk.f a0_0 a0_1).bind fun t110 => (if t110 = true then ((impl_inside.f a1 0 (wrap64 (a0_0 - 1))).bind fun t111 => (if t111 = true then ((impl_inside.f a2 0 (wrap64 (a0_1 - 1))).bind fun t112 => (if t112 = true then (some (wrap64 ((wrap64 (a2 * a0_0)) + a1))) else (some (-1)))) else (some (-1)))) else (some (-1)))
set_option maxHeartbeats 8000000 in
set_option maxRecDepth 100000 in
theorem impl_NodeAt.calls (a0_0 : Int) (a0_1 : Int) (a1 : Int) (a2 : Int) (r : Int) (w : World) (h : impl_NodeAt.f a0_0 a0_1 a1 a2 = some r) :
  Calls Try.prog 118 #[.agg #[.int .i64 a0_0, .int .i64 a0_1], .int .i64 a1, .int .i64 a2] w fun e w' => e = .returned (.int .i64 r) ∧ Below w.heap.size w w' := by
 have hu32 := Try.underlying32
 have HB := qab.mk (Below.refl w.heap.size w)
 have H : ((impl_GridOk.f a0_0 a0_1).bind fun t110 => (if t110 = true then ((impl_inside.f a1 0 (wrap64 (a0_0 - 1))).bind fun t111 => (if t111 = true then ((impl_inside.f a2 0 (wrap64 (a0_1 - 1))).bind fun t112 => (if t112 = true then (some (wrap64 ((wrap64 (a2 * a0_0)) + a1))) else (some (-1)))) else (some (-1)))) else (some (-1)))) = some r := h
 clear h
 replace H := Option.bind_eq_some_iff.mp H
 obtain ⟨t110, A40, H⟩ := H
 try dsimp only at H
 have A4 := qab.mk A40
 clear A40
 by_cases c5 : t110 = true
 ·subst c5
  have H1 := H
  rw [if_pos rfl] at H1
  clear H
  have H := H1
  clear H1
  replace H := Option.bind_eq_some_iff.mp H
  obtain ⟨t111, A60, H⟩ := H
  try dsimp only at H
  have A6 := qab.mk A60
  clear A60
  by_cases c7 : t111 = true
  ·subst c7
   have H1 := H
   rw [if_pos rfl] at H1
   clear H
   have H := H1
   clear H1
   replace H := Option.bind_eq_some_iff.mp H
   obtain ⟨t112, A80, H⟩ := H
   try dsimp only at H
   have A8 := qab.mk A80
   clear A80
   by_cases c9 : t112 = true
   ·subst c9
    have H1 := H
    rw [if_pos rfl] at H1
    clear H
    have H := H1
    clear H1
    obtain rfl := Option.some.inj H
    go_enter Try.func118, Try.ntmps118
    go_wp2_with (first | ((with_reducible refine qas (N := 3) rfl ?_); refine qar ?hg (N := 3) ?hd (cs := #[.int .i64 a0_0, .int .i64 a0_1]) (t := 32) ?hr ?_; (case hd => rfl); (case hg => rfl); (case hr => first | (go_simp; done) | (go_simp; rfl)); intro gb109 hg w10 hbox hb; have n0_ := qab.mk (qak (by repeat (first | (with_reducible first | exact HB.out | apply qad | apply qaa | apply qac) | exact HB.out)) hb); have n1_ := qab.mk (hbox); have n2_ := qab.mk ((by rw [hg]; exact (qal (by repeat (first | (with_reducible first | exact HB.out | apply qad | apply qaa | apply qac) | exact HB.out))) : w.heap.size ≤ gb109)); have n3_ := qab.mk ((by rw [hg]; exact (qal (by repeat (first | (with_reducible first | exact HB.out | apply qad | apply qaa | apply qac) | exact HB.out))) : w.heap.size ≤ gb109)); clear HB; have HB := n0_; have BK109 := n1_; have GW109 := n2_; have GE109 := n3_; clear n0_ n1_ n2_ n3_; clear hb hbox hg; have hcz11_0 : w10.cell? ⟨gb109, 0, none⟩ = some (.int .i64 a0_0) := (qai BK109.out 0).trans rfl; have hcz11_1 : w10.cell? ⟨gb109, 1, none⟩ = some (.int .i64 a0_1) := (qai BK109.out 1).trans rfl; have hfz11_0 := qah BK109.out 0; have hfz11_1 := qah BK109.out 1) | ((with_reducible refine qaq (f := 97) rfl ?_); refine qbe (some 8) rfl rfl Try.func97 (by kernel_rfl) rfl #[.agg #[.int .i64 a0_0, .int .i64 a0_1]] rfl (by (try simp only [List.map_toArray, List.map_cons, List.map_nil]); first | done | rfl | (simp only [List.length_drop, List.length_take]; rfl)) ?_; (with_reducible refine (impl_GridOk.calls a0_0 a0_1 true _ A4.out).mono ?_); rintro e w12 ⟨rfl, hb⟩; refine ⟨_, rfl, ?_⟩; have n0_ := qab.mk (qam (g := gb109) (o := .cells #[.int .i64 a0_0, .int .i64 a0_1] 32 (0, 0)) (by (with_reducible repeat (first | refine qag ?_ _ | refine qaj ?_ | refine qaf ?_ _)); exact BK109.out) hb); have n1_ := qab.mk (qak (by repeat (first | (with_reducible first | exact HB.out | apply qad | apply qaa | apply qac | refine qae ?_ GE109.out) | exact HB.out)) hb); clear BK109; clear HB; have BK109 := n0_; have HB := n1_; clear n0_ n1_; (try clear hb); (try clear hb2); (try clear hk); (try clear hi); have hcz13_0 : w12.cell? ⟨gb109, 0, none⟩ = some (.int .i64 a0_0) := (qai BK109.out 0).trans rfl; have hcz13_1 : w12.cell? ⟨gb109, 1, none⟩ = some (.int .i64 a0_1) := (qai BK109.out 1).trans rfl; have hfz13_0 := qah BK109.out 0; have hfz13_1 := qah BK109.out 1) | (go_at_call 98; (with_reducible refine (impl_inside.calls a1 0 (wrap64 (a0_0 - 1)) true _ A6.out).mono ?_); rintro e w' ⟨rfl, ⟨nd, rfl⟩⟩) | (go_at_call 98; (with_reducible refine (impl_inside.calls a2 0 (wrap64 (a0_1 - 1)) true _ A8.out).mono ?_); rintro e w' ⟨rfl, ⟨nd, rfl⟩⟩))
    go_ret
    exact ⟨by first | rfl | (simp [errW_none, errW_some] <;> rfl) | (simp [*, errW_none, errW_some] <;> rfl), by repeat (first | (with_reducible first | exact HB.out | apply qad | apply qaa | apply qac | refine qae ?_ GE109.out) | exact HB.out)⟩
   ·replace c9 := Bool.eq_false_iff.mpr c9
    subst c9
    have H1 := H
    rw [if_neg (show ¬ (false = true) by decide)] at H1
    clear H
    have H := H1
    clear H1
    obtain rfl := Option.some.inj H
    go_enter Try.func118, Try.ntmps118
    go_wp2_with (first | ((with_reducible refine qas (N := 3) rfl ?_); refine qar ?hg (N := 3) ?hd (cs := #[.int .i64 a0_0, .int .i64 a0_1]) (t := 32) ?hr ?_; (case hd => rfl); (case hg => rfl); (case hr => first | (go_simp; done) | (go_simp; rfl)); intro gb109 hg w14 hbox hb; have n0_ := qab.mk (qak (by repeat (first | (with_reducible first | exact HB.out | apply qad | apply qaa | apply qac) | exact HB.out)) hb); have n1_ := qab.mk (hbox); have n2_ := qab.mk ((by rw [hg]; exact (qal (by repeat (first | (with_reducible first | exact HB.out | apply qad | apply qaa | apply qac) | exact HB.out))) : w.heap.size ≤ gb109)); have n3_ := qab.mk ((by rw [hg]; exact (qal (by repeat (first | (with_reducible first | exact HB.out | apply qad | apply qaa | apply qac) | exact HB.out))) : w.heap.size ≤ gb109)); clear HB; have HB := n0_; have BK109 := n1_; have GW109 := n2_; have GE109 := n3_; clear n0_ n1_ n2_ n3_; clear hb hbox hg; have hcz15_0 : w14.cell? ⟨gb109, 0, none⟩ = some (.int .i64 a0_0) := (qai BK109.out 0).trans rfl; have hcz15_1 : w14.cell? ⟨gb109, 1, none⟩ = some (.int .i64 a0_1) := (qai BK109.out 1).trans rfl; have hfz15_0 := qah BK109.out 0; have hfz15_1 := qah BK109.out 1) | ((with_reducible refine qaq (f := 97) rfl ?_); refine qbe (some 8) rfl rfl Try.func97 (by kernel_rfl) rfl #[.agg #[.int .i64 a0_0, .int .i64 a0_1]] rfl (by (try simp only [List.map_toArray, List.map_cons, List.map_nil]); first | done | rfl | (simp only [List.length_drop, List.length_take]; rfl)) ?_; (with_reducible refine (impl_GridOk.calls a0_0 a0_1 true _ A4.out).mono ?_); rintro e w16 ⟨rfl, hb⟩; refine ⟨_, rfl, ?_⟩; have n0_ := qab.mk (qam (g := gb109) (o := .cells #[.int .i64 a0_0, .int .i64 a0_1] 32 (0, 0)) (by (with_reducible repeat (first | refine qag ?_ _ | refine qaj ?_ | refine qaf ?_ _)); exact BK109.out) hb); have n1_ := qab.mk (qak (by repeat (first | (with_reducible first | exact HB.out | apply qad | apply qaa | apply qac | refine qae ?_ GE109.out) | exact HB.out)) hb); clear BK109; clear HB; have BK109 := n0_; have HB := n1_; clear n0_ n1_; (try clear hb); (try clear hb2); (try clear hk); (try clear hi); have hcz17_0 : w16.cell? ⟨gb109, 0, none⟩ = some (.int .i64 a0_0) := (qai BK109.out 0).trans rfl; have hcz17_1 : w16.cell? ⟨gb109, 1, none⟩ = some (.int .i64 a0_1) := (qai BK109.out 1).trans rfl; have hfz17_0 := qah BK109.out 0; have hfz17_1 := qah BK109.out 1) | (go_at_call 98; (with_reducible refine (impl_inside.calls a1 0 (wrap64 (a0_0 - 1)) true _ A6.out).mono ?_); rintro e w' ⟨rfl, ⟨nd, rfl⟩⟩) | (go_at_call 98; (with_reducible refine (impl_inside.calls a2 0 (wrap64 (a0_1 - 1)) false _ A8.out).mono ?_); rintro e w' ⟨rfl, ⟨nd, rfl⟩⟩))
    go_ret
    exact ⟨by first | rfl | (simp [errW_none, errW_some] <;> rfl) | (simp [*, errW_none, errW_some] <;> rfl), by repeat (first | (with_reducible first | exact HB.out | apply qad | apply qaa | apply qac | refine qae ?_ GE109.out) | exact HB.out)⟩
  ·replace c7 := Bool.eq_false_iff.mpr c7
   subst c7
   have H1 := H
   rw [if_neg (show ¬ (false = true) by decide)] at H1
   clear H
   have H := H1
   clear H1
   obtain rfl := Option.some.inj H
   go_enter Try.func118, Try.ntmps118
   go_wp2_with (first | ((with_reducible refine qas (N := 3) rfl ?_); refine qar ?hg (N := 3) ?hd (cs := #[.int .i64 a0_0, .int .i64 a0_1]) (t := 32) ?hr ?_; (case hd => rfl); (case hg => rfl); (case hr => first | (go_simp; done) | (go_simp; rfl)); intro gb109 hg w18 hbox hb; have n0_ := qab.mk (qak (by repeat (first | (with_reducible first | exact HB.out | apply qad | apply qaa | apply qac) | exact HB.out)) hb); have n1_ := qab.mk (hbox); have n2_ := qab.mk ((by rw [hg]; exact (qal (by repeat (first | (with_reducible first | exact HB.out | apply qad | apply qaa | apply qac) | exact HB.out))) : w.heap.size ≤ gb109)); have n3_ := qab.mk ((by rw [hg]; exact (qal (by repeat (first | (with_reducible first | exact HB.out | apply qad | apply qaa | apply qac) | exact HB.out))) : w.heap.size ≤ gb109)); clear HB; have HB := n0_; have BK109 := n1_; have GW109 := n2_; have GE109 := n3_; clear n0_ n1_ n2_ n3_; clear hb hbox hg; have hcz19_0 : w18.cell? ⟨gb109, 0, none⟩ = some (.int .i64 a0_0) := (qai BK109.out 0).trans rfl; have hcz19_1 : w18.cell? ⟨gb109, 1, none⟩ = some (.int .i64 a0_1) := (qai BK109.out 1).trans rfl; have hfz19_0 := qah BK109.out 0; have hfz19_1 := qah BK109.out 1) | ((with_reducible refine qaq (f := 97) rfl ?_); refine qbe (some 8) rfl rfl Try.func97 (by kernel_rfl) rfl #[.agg #[.int .i64 a0_0, .int .i64 a0_1]] rfl (by (try simp only [List.map_toArray, List.map_cons, List.map_nil]); first | done | rfl | (simp only [List.length_drop, List.length_take]; rfl)) ?_; (with_reducible refine (impl_GridOk.calls a0_0 a0_1 true _ A4.out).mono ?_); rintro e w20 ⟨rfl, hb⟩; refine ⟨_, rfl, ?_⟩; have n0_ := qab.mk (qam (g := gb109) (o := .cells #[.int .i64 a0_0, .int .i64 a0_1] 32 (0, 0)) (by (with_reducible repeat (first | refine qag ?_ _ | refine qaj ?_ | refine qaf ?_ _)); exact BK109.out) hb); have n1_ := qab.mk (qak (by repeat (first | (with_reducible first | exact HB.out | apply qad | apply qaa | apply qac | refine qae ?_ GE109.out) | exact HB.out)) hb); clear BK109; clear HB; have BK109 := n0_; have HB := n1_; clear n0_ n1_; (try clear hb); (try clear hb2); (try clear hk); (try clear hi); have hcz21_0 : w20.cell? ⟨gb109, 0, none⟩ = some (.int .i64 a0_0) := (qai BK109.out 0).trans rfl; have hcz21_1 : w20.cell? ⟨gb109, 1, none⟩ = some (.int .i64 a0_1) := (qai BK109.out 1).trans rfl; have hfz21_0 := qah BK109.out 0; have hfz21_1 := qah BK109.out 1) | (go_at_call 98; (with_reducible refine (impl_inside.calls a1 0 (wrap64 (a0_0 - 1)) false _ A6.out).mono ?_); rintro e w' ⟨rfl, ⟨nd, rfl⟩⟩))
   go_ret
   exact ⟨by first | rfl | (simp [errW_none, errW_some] <;> rfl) | (simp [*, errW_none, errW_some] <;> rfl), by repeat (first | (with_reducible first | exact HB.out | apply qad | apply qaa | apply qac | refine qae ?_ GE109.out) | exact HB.out)⟩
 ·replace c5 := Bool.eq_false_iff.mpr c5
  subst c5
  have H1 := H
  rw [if_neg (show ¬ (false = true) by decide)] at H1
  clear H
  have H := H1
  clear H1
  obtain rfl := Option.some.inj H
  go_enter Try.func118, Try.ntmps118
  go_wp2_with (first | ((with_reducible refine qas (N := 3) rfl ?_); refine qar ?hg (N := 3) ?hd (cs := #[.int .i64 a0_0, .int .i64 a0_1]) (t := 32) ?hr ?_; (case hd => rfl); (case hg => rfl); (case hr => first | (go_simp; done) | (go_simp; rfl)); intro gb109 hg w22 hbox hb; have n0_ := qab.mk (qak (by repeat (first | (with_reducible first | exact HB.out | apply qad | apply qaa | apply qac) | exact HB.out)) hb); have n1_ := qab.mk (hbox); have n2_ := qab.mk ((by rw [hg]; exact (qal (by repeat (first | (with_reducible first | exact HB.out | apply qad | apply qaa | apply qac) | exact HB.out))) : w.heap.size ≤ gb109)); have n3_ := qab.mk ((by rw [hg]; exact (qal (by repeat (first | (with_reducible first | exact HB.out | apply qad | apply qaa | apply qac) | exact HB.out))) : w.heap.size ≤ gb109)); clear HB; have HB := n0_; have BK109 := n1_; have GW109 := n2_; have GE109 := n3_; clear n0_ n1_ n2_ n3_; clear hb hbox hg; have hcz23_0 : w22.cell? ⟨gb109, 0, none⟩ = some (.int .i64 a0_0) := (qai BK109.out 0).trans rfl; have hcz23_1 : w22.cell? ⟨gb109, 1, none⟩ = some (.int .i64 a0_1) := (qai BK109.out 1).trans rfl; have hfz23_0 := qah BK109.out 0; have hfz23_1 := qah BK109.out 1) | ((with_reducible refine qaq (f := 97) rfl ?_); refine qbe (some 8) rfl rfl Try.func97 (by kernel_rfl) rfl #[.agg #[.int .i64 a0_0, .int .i64 a0_1]] rfl (by (try simp only [List.map_toArray, List.map_cons, List.map_nil]); first | done | rfl | (simp only [List.length_drop, List.length_take]; rfl)) ?_; (with_reducible refine (impl_GridOk.calls a0_0 a0_1 false _ A4.out).mono ?_); rintro e w24 ⟨rfl, hb⟩; refine ⟨_, rfl, ?_⟩; have n0_ := qab.mk (qam (g := gb109) (o := .cells #[.int .i64 a0_0, .int .i64 a0_1] 32 (0, 0)) (by (with_reducible repeat (first | refine qag ?_ _ | refine qaj ?_ | refine qaf ?_ _)); exact BK109.out) hb); have n1_ := qab.mk (qak (by repeat (first | (with_reducible first | exact HB.out | apply qad | apply qaa | apply qac | refine qae ?_ GE109.out) | exact HB.out)) hb); clear BK109; clear HB; have BK109 := n0_; have HB := n1_; clear n0_ n1_; (try clear hb); (try clear hb2); (try clear hk); (try clear hi)))
  go_ret
  exact ⟨by first | rfl | (simp [errW_none, errW_some] <;> rfl) | (simp [*, errW_none, errW_some] <;> rfl), by repeat (first | (with_reducible first | exact HB.out | apply qad | apply qaa | apply qac | refine qae ?_ GE109.out) | exact HB.out)⟩


/-! ### impl_NextNode: function 62 -/
def impl_NextNode.f (a0_0 : Int) (a0_1 : Int) (a1 : Int) (a2 : Int) : Option (Int) := (impl_isNode.f a0_0 a0_1 a1).bind fun t114 => (if t114 = true then (if a0_0 = 0 then (none) else (if a2 = 0 then ((impl_NodeAt.f a0_0 a0_1 (Int.tmod a1 a0_0) (wrap64 ((wrap64 (Int.tdiv a1 a0_0)) - 1))).bind fun t115 => (some t115)) else (if a2 = 1 then ((impl_NodeAt.f a0_0 a0_1 (wrap64 ((Int.tmod a1 a0_0) + 1)) (wrap64 (Int.tdiv a1 a0_0))).bind fun t116 => (some t116)) else (if a2 = 2 then ((impl_NodeAt.f a0_0 a0_1 (Int.tmod a1 a0_0) (wrap64 ((wrap64 (Int.tdiv a1 a0_0)) + 1))).bind fun t117 => (some t117)) else (if a2 = 3 then ((impl_NodeAt.f a0_0 a0_1 (wrap64 ((Int.tmod a1 a0_0) - 1)) (wrap64 (Int.tdiv a1 a0_0))).bind fun t118 => (some t118)) else (if a2 = 4 then (some a1) else (some (-1)))))))) else (some (-1)))
set_option maxHeartbeats 8000000 in
set_option maxRecDepth 100000 in
theorem impl_NextNode.calls (a0_0 : Int) (a0_1 : Int) (a1 : Int) (a2 : Int) (r : Int) (w : World) (h : impl_NextNode.f a0_0 a0_1 a1 a2 = some r) :
  Calls Try.prog 62 #[.agg #[.int .i64 a0_0, .int .i64 a0_1], .int .i64 a1, .int .i64 a2] w fun e w' => e = .returned (.int .i64 r) ∧ Below w.heap.size w w' := by
 have hu32 := Try.underlying32
 have HB := qab.mk (Below.refl w.heap.size w)
 have H : ((impl_isNode.f a0_0 a0_1 a1).bind fun t114 => (if t114 = true then (if a0_0 = 0 then (none) else (if a2 = 0 then ((impl_NodeAt.f a0_0 a0_1 (Int.tmod a1 a0_0) (wrap64 ((wrap64 (Int.tdiv a1 a0_0)) - 1))).bind fun t115 => (some t115)) else (if a2 = 1 then ((impl_NodeAt.f a0_0 a0_1 (wrap64 ((Int.tmod a1 a0_0) + 1)) (wrap64 (Int.tdiv a1 a0_0))).bind fun t116 => (some t116)) else (if a2 = 2 then ((impl_NodeAt.f a0_0 a0_1 (Int.tmod a1 a0_0) (wrap64 ((wrap64 (Int.tdiv a1 a0_0)) + 1))).bind fun t117 => (some t117)) else (if a2 = 3 then ((impl_NodeAt.f a0_0 a0_1 (wrap64 ((Int.tmod a1 a0_0) - 1)) (wrap64 (Int.tdiv a1 a0_0))).bind fun t118 => (some t118)) else (if a2 = 4 then (some a1) else (some (-1)))))))) else (some (-1)))) = some r := h
 clear h
 replace H := Option.bind_eq_some_iff.mp H
 obtain ⟨t114, A40, H⟩ := H
 try dsimp only at H
 have A4 := qab.mk A40
 clear A40
 by_cases c5 : t114 = true
 ·subst c5
  have H1 := H
  rw [if_pos rfl] at H1
  clear H
  have H := H1
  clear H1
  by_cases c6 : a0_0 = 0
  ·rw [if_pos c6] at H
   exact absurd H (by simp)
  ·rw [if_neg c6] at H
   have c6b0 : (a0_0 == 0) = false := beq_eq_false_iff_ne.mpr c6
   have c6b1 : (a0_0 != 0) = true := bne_iff_ne.mpr c6
   by_cases c7 : a2 = 0
   ·rw [if_pos c7] at H
    have c7b0 : (a2 == 0) = true := beq_iff_eq.mpr c7
    have c7b1 : (a2 != 0) = false := bne_eq_false_iff_eq.mpr c7
    clear c7
    replace H := Option.bind_eq_some_iff.mp H
    obtain ⟨t115, A80, H⟩ := H
    try dsimp only at H
    have A8 := qab.mk A80
    clear A80
    obtain rfl := Option.some.inj H
    go_enter Try.func62, Try.ntmps62
    go_wp2_with (first | ((with_reducible refine qas (N := 3) rfl ?_); refine qar ?hg (N := 3) ?hd (cs := #[.int .i64 a0_0, .int .i64 a0_1]) (t := 32) ?hr ?_; (case hd => rfl); (case hg => rfl); (case hr => first | (go_simp; done) | (go_simp; rfl)); intro gb113 hg w9 hbox hb; have n0_ := qab.mk (qak (by repeat (first | (with_reducible first | exact HB.out | apply qad | apply qaa | apply qac) | exact HB.out)) hb); have n1_ := qab.mk (hbox); have n2_ := qab.mk ((by rw [hg]; exact (qal (by repeat (first | (with_reducible first | exact HB.out | apply qad | apply qaa | apply qac) | exact HB.out))) : w.heap.size ≤ gb113)); have n3_ := qab.mk ((by rw [hg]; exact (qal (by repeat (first | (with_reducible first | exact HB.out | apply qad | apply qaa | apply qac) | exact HB.out))) : w.heap.size ≤ gb113)); clear HB; have HB := n0_; have BK113 := n1_; have GW113 := n2_; have GE113 := n3_; clear n0_ n1_ n2_ n3_; clear hb hbox hg; have hcz10_0 : w9.cell? ⟨gb113, 0, none⟩ = some (.int .i64 a0_0) := (qai BK113.out 0).trans rfl; have hcz10_1 : w9.cell? ⟨gb113, 1, none⟩ = some (.int .i64 a0_1) := (qai BK113.out 1).trans rfl; have hfz10_0 := qah BK113.out 0; have hfz10_1 := qah BK113.out 1) | (go_at_call 108; (with_reducible refine (impl_isNode.calls a0_0 a0_1 a1 true _ A4.out).mono ?_); rintro e w11 ⟨rfl, hb⟩; have n0_ := qab.mk (qam (g := gb113) (o := .cells #[.int .i64 a0_0, .int .i64 a0_1] 32 (0, 0)) (by (with_reducible repeat (first | refine qag ?_ _ | refine qaj ?_ | refine qaf ?_ _)); exact BK113.out) hb); have n1_ := qab.mk (qak (by repeat (first | (with_reducible first | exact HB.out | apply qad | apply qaa | apply qac | refine qae ?_ GE113.out) | exact HB.out)) hb); clear BK113; clear HB; have BK113 := n0_; have HB := n1_; clear n0_ n1_; (try clear hb); (try clear hb2); (try clear hk); (try clear hi); have hcz12_0 : w11.cell? ⟨gb113, 0, none⟩ = some (.int .i64 a0_0) := (qai BK113.out 0).trans rfl; have hcz12_1 : w11.cell? ⟨gb113, 1, none⟩ = some (.int .i64 a0_1) := (qai BK113.out 1).trans rfl; have hfz12_0 := qah BK113.out 0; have hfz12_1 := qah BK113.out 1) | (go_at_call 118; (with_reducible refine (impl_NodeAt.calls a0_0 a0_1 (Int.tmod a1 a0_0) (wrap64 ((wrap64 (Int.tdiv a1 a0_0)) - 1)) t115 _ A8.out).mono ?_); rintro e w13 ⟨rfl, hb⟩; have n0_ := qab.mk (qam (g := gb113) (o := .cells #[.int .i64 a0_0, .int .i64 a0_1] 32 (0, 0)) (by (with_reducible repeat (first | refine qag ?_ _ | refine qaj ?_ | refine qaf ?_ _)); exact BK113.out) hb); have n1_ := qab.mk (qak (by repeat (first | (with_reducible first | exact HB.out | apply qad | apply qaa | apply qac | refine qae ?_ GE113.out) | exact HB.out)) hb); clear BK113; clear HB; have BK113 := n0_; have HB := n1_; clear n0_ n1_; (try clear hb); (try clear hb2); (try clear hk); (try clear hi)))
    repeat (go_quiet (first | ((with_reducible refine qas (N := 3) rfl ?_); refine qar ?hg (N := 3) ?hd (cs := #[.int .i64 a0_0, .int .i64 a0_1]) (t := 32) ?hr ?_; (case hd => rfl); (case hg => rfl); (case hr => first | (go_simp; done) | (go_simp; rfl)); intro gb113 hg w9 hbox hb; have n0_ := qab.mk (qak (by repeat (first | (with_reducible first | exact HB.out | apply qad | apply qaa | apply qac) | exact HB.out)) hb); have n1_ := qab.mk (hbox); have n2_ := qab.mk ((by rw [hg]; exact (qal (by repeat (first | (with_reducible first | exact HB.out | apply qad | apply qaa | apply qac) | exact HB.out))) : w.heap.size ≤ gb113)); have n3_ := qab.mk ((by rw [hg]; exact (qal (by repeat (first | (with_reducible first | exact HB.out | apply qad | apply qaa | apply qac) | exact HB.out))) : w.heap.size ≤ gb113)); clear HB; have HB := n0_; have BK113 := n1_; have GW113 := n2_; have GE113 := n3_; clear n0_ n1_ n2_ n3_; clear hb hbox hg; have hcz10_0 : w9.cell? ⟨gb113, 0, none⟩ = some (.int .i64 a0_0) := (qai BK113.out 0).trans rfl; have hcz10_1 : w9.cell? ⟨gb113, 1, none⟩ = some (.int .i64 a0_1) := (qai BK113.out 1).trans rfl; have hfz10_0 := qah BK113.out 0; have hfz10_1 := qah BK113.out 1) | (go_at_call 108; (with_reducible refine (impl_isNode.calls a0_0 a0_1 a1 true _ A4.out).mono ?_); rintro e w11 ⟨rfl, hb⟩; have n0_ := qab.mk (qam (g := gb113) (o := .cells #[.int .i64 a0_0, .int .i64 a0_1] 32 (0, 0)) (by (with_reducible repeat (first | refine qag ?_ _ | refine qaj ?_ | refine qaf ?_ _)); exact BK113.out) hb); have n1_ := qab.mk (qak (by repeat (first | (with_reducible first | exact HB.out | apply qad | apply qaa | apply qac | refine qae ?_ GE113.out) | exact HB.out)) hb); clear BK113; clear HB; have BK113 := n0_; have HB := n1_; clear n0_ n1_; (try clear hb); (try clear hb2); (try clear hk); (try clear hi); have hcz12_0 : w11.cell? ⟨gb113, 0, none⟩ = some (.int .i64 a0_0) := (qai BK113.out 0).trans rfl; have hcz12_1 : w11.cell? ⟨gb113, 1, none⟩ = some (.int .i64 a0_1) := (qai BK113.out 1).trans rfl; have hfz12_0 := qah BK113.out 0; have hfz12_1 := qah BK113.out 1) | (go_at_call 118; (with_reducible refine (impl_NodeAt.calls a0_0 a0_1 (Int.tmod a1 a0_0) (wrap64 ((wrap64 (Int.tdiv a1 a0_0)) - 1)) t115 _ A8.out).mono ?_); rintro e w13 ⟨rfl, hb⟩; have n0_ := qab.mk (qam (g := gb113) (o := .cells #[.int .i64 a0_0, .int .i64 a0_1] 32 (0, 0)) (by (with_reducible repeat (first | refine qag ?_ _ | refine qaj ?_ | refine qaf ?_ _)); exact BK113.out) hb); have n1_ := qab.mk (qak (by repeat (first | (with_reducible first | exact HB.out | apply qad | apply qaa | apply qac | refine qae ?_ GE113.out) | exact HB.out)) hb); clear BK113; clear HB; have BK113 := n0_; have HB := n1_; clear n0_ n1_; (try clear hb); (try clear hb2); (try clear hk); (try clear hi))); try go_wp2_with (first | ((with_reducible refine qas (N := 3) rfl ?_); refine qar ?hg (N := 3) ?hd (cs := #[.int .i64 a0_0, .int .i64 a0_1]) (t := 32) ?hr ?_; (case hd => rfl); (case hg => rfl); (case hr => first | (go_simp; done) | (go_simp; rfl)); intro gb113 hg w9 hbox hb; have n0_ := qab.mk (qak (by repeat (first | (with_reducible first | exact HB.out | apply qad | apply qaa | apply qac) | exact HB.out)) hb); have n1_ := qab.mk (hbox); have n2_ := qab.mk ((by rw [hg]; exact (qal (by repeat (first | (with_reducible first | exact HB.out | apply qad | apply qaa | apply qac) | exact HB.out))) : w.heap.size ≤ gb113)); have n3_ := qab.mk ((by rw [hg]; exact (qal (by repeat (first | (with_reducible first | exact HB.out | apply qad | apply qaa | apply qac) | exact HB.out))) : w.heap.size ≤ gb113)); clear HB; have HB := n0_; have BK113 := n1_; have GW113 := n2_; have GE113 := n3_; clear n0_ n1_ n2_ n3_; clear hb hbox hg; have hcz10_0 : w9.cell? ⟨gb113, 0, none⟩ = some (.int .i64 a0_0) := (qai BK113.out 0).trans rfl; have hcz10_1 : w9.cell? ⟨gb113, 1, none⟩ = some (.int .i64 a0_1) := (qai BK113.out 1).trans rfl; have hfz10_0 := qah BK113.out 0; have hfz10_1 := qah BK113.out 1) | (go_at_call 108; (with_reducible refine (impl_isNode.calls a0_0 a0_1 a1 true _ A4.out).mono ?_); rintro e w11 ⟨rfl, hb⟩; have n0_ := qab.mk (qam (g := gb113) (o := .cells #[.int .i64 a0_0, .int .i64 a0_1] 32 (0, 0)) (by (with_reducible repeat (first | refine qag ?_ _ | refine qaj ?_ | refine qaf ?_ _)); exact BK113.out) hb); have n1_ := qab.mk (qak (by repeat (first | (with_reducible first | exact HB.out | apply qad | apply qaa | apply qac | refine qae ?_ GE113.out) | exact HB.out)) hb); clear BK113; clear HB; have BK113 := n0_; have HB := n1_; clear n0_ n1_; (try clear hb); (try clear hb2); (try clear hk); (try clear hi); have hcz12_0 : w11.cell? ⟨gb113, 0, none⟩ = some (.int .i64 a0_0) := (qai BK113.out 0).trans rfl; have hcz12_1 : w11.cell? ⟨gb113, 1, none⟩ = some (.int .i64 a0_1) := (qai BK113.out 1).trans rfl; have hfz12_0 := qah BK113.out 0; have hfz12_1 := qah BK113.out 1) | (go_at_call 118; (with_reducible refine (impl_NodeAt.calls a0_0 a0_1 (Int.tmod a1 a0_0) (wrap64 ((wrap64 (Int.tdiv a1 a0_0)) - 1)) t115 _ A8.out).mono ?_); rintro e w13 ⟨rfl, hb⟩; have n0_ := qab.mk (qam (g := gb113) (o := .cells #[.int .i64 a0_0, .int .i64 a0_1] 32 (0, 0)) (by (with_reducible repeat (first | refine qag ?_ _ | refine qaj ?_ | refine qaf ?_ _)); exact BK113.out) hb); have n1_ := qab.mk (qak (by repeat (first | (with_reducible first | exact HB.out | apply qad | apply qaa | apply qac | refine qae ?_ GE113.out) | exact HB.out)) hb); clear BK113; clear HB; have BK113 := n0_; have HB := n1_; clear n0_ n1_; (try clear hb); (try clear hb2); (try clear hk); (try clear hi))))
    go_ret
    exact ⟨by first | rfl | (simp [errW_none, errW_some] <;> rfl) | (simp [*, errW_none, errW_some] <;> rfl), by repeat (first | (with_reducible first | exact HB.out | apply qad | apply qaa | apply qac | refine qae ?_ GE113.out) | exact HB.out)⟩
   ·rw [if_neg c7] at H
    have c7b0 : (a2 == 0) = false := beq_eq_false_iff_ne.mpr c7
    have c7b1 : (a2 != 0) = true := bne_iff_ne.mpr c7
    by_cases c14 : a2 = 1
    ·rw [if_pos c14] at H
     have c14b0 : (a2 == 1) = true := beq_iff_eq.mpr c14
     have c14b1 : (a2 != 1) = false := bne_eq_false_iff_eq.mpr c14
     clear c14
     replace H := Option.bind_eq_some_iff.mp H
     obtain ⟨t116, A150, H⟩ := H
     try dsimp only at H
     have A15 := qab.mk A150
     clear A150
     obtain rfl := Option.some.inj H
     go_enter Try.func62, Try.ntmps62
     go_wp2_with (first | ((with_reducible refine qas (N := 3) rfl ?_); refine qar ?hg (N := 3) ?hd (cs := #[.int .i64 a0_0, .int .i64 a0_1]) (t := 32) ?hr ?_; (case hd => rfl); (case hg => rfl); (case hr => first | (go_simp; done) | (go_simp; rfl)); intro gb113 hg w16 hbox hb; have n0_ := qab.mk (qak (by repeat (first | (with_reducible first | exact HB.out | apply qad | apply qaa | apply qac) | exact HB.out)) hb); have n1_ := qab.mk (hbox); have n2_ := qab.mk ((by rw [hg]; exact (qal (by repeat (first | (with_reducible first | exact HB.out | apply qad | apply qaa | apply qac) | exact HB.out))) : w.heap.size ≤ gb113)); have n3_ := qab.mk ((by rw [hg]; exact (qal (by repeat (first | (with_reducible first | exact HB.out | apply qad | apply qaa | apply qac) | exact HB.out))) : w.heap.size ≤ gb113)); clear HB; have HB := n0_; have BK113 := n1_; have GW113 := n2_; have GE113 := n3_; clear n0_ n1_ n2_ n3_; clear hb hbox hg; have hcz17_0 : w16.cell? ⟨gb113, 0, none⟩ = some (.int .i64 a0_0) := (qai BK113.out 0).trans rfl; have hcz17_1 : w16.cell? ⟨gb113, 1, none⟩ = some (.int .i64 a0_1) := (qai BK113.out 1).trans rfl; have hfz17_0 := qah BK113.out 0; have hfz17_1 := qah BK113.out 1) | (go_at_call 108; (with_reducible refine (impl_isNode.calls a0_0 a0_1 a1 true _ A4.out).mono ?_); rintro e w18 ⟨rfl, hb⟩; have n0_ := qab.mk (qam (g := gb113) (o := .cells #[.int .i64 a0_0, .int .i64 a0_1] 32 (0, 0)) (by (with_reducible repeat (first | refine qag ?_ _ | refine qaj ?_ | refine qaf ?_ _)); exact BK113.out) hb); have n1_ := qab.mk (qak (by repeat (first | (with_reducible first | exact HB.out | apply qad | apply qaa | apply qac | refine qae ?_ GE113.out) | exact HB.out)) hb); clear BK113; clear HB; have BK113 := n0_; have HB := n1_; clear n0_ n1_; (try clear hb); (try clear hb2); (try clear hk); (try clear hi); have hcz19_0 : w18.cell? ⟨gb113, 0, none⟩ = some (.int .i64 a0_0) := (qai BK113.out 0).trans rfl; have hcz19_1 : w18.cell? ⟨gb113, 1, none⟩ = some (.int .i64 a0_1) := (qai BK113.out 1).trans rfl; have hfz19_0 := qah BK113.out 0; have hfz19_1 := qah BK113.out 1) | (go_at_call 118; (with_reducible refine (impl_NodeAt.calls a0_0 a0_1 (wrap64 ((Int.tmod a1 a0_0) + 1)) (wrap64 (Int.tdiv a1 a0_0)) t116 _ A15.out).mono ?_); rintro e w20 ⟨rfl, hb⟩; have n0_ := qab.mk (qam (g := gb113) (o := .cells #[.int .i64 a0_0, .int .i64 a0_1] 32 (0, 0)) (by (with_reducible repeat (first | refine qag ?_ _ | refine qaj ?_ | refine qaf ?_ _)); exact BK113.out) hb); have n1_ := qab.mk (qak (by repeat (first | (with_reducible first | exact HB.out | apply qad | apply qaa | apply qac | refine qae ?_ GE113.out) | exact HB.out)) hb); clear BK113; clear HB; have BK113 := n0_; have HB := n1_; clear n0_ n1_; (try clear hb); (try clear hb2); (try clear hk); (try clear hi)))
     repeat (go_quiet (first | ((with_reducible refine qas (N := 3) rfl ?_); refine qar ?hg (N := 3) ?hd (cs := #[.int .i64 a0_0, .int .i64 a0_1]) (t := 32) ?hr ?_; (case hd => rfl); (case hg => rfl); (case hr => first | (go_simp; done) | (go_simp; rfl)); intro gb113 hg w16 hbox hb; have n0_ := qab.mk (qak (by repeat (first | (with_reducible first | exact HB.out | apply qad | apply qaa | apply qac) | exact HB.out)) hb); have n1_ := qab.mk (hbox); have n2_ := qab.mk ((by rw [hg]; exact (qal (by repeat (first | (with_reducible first | exact HB.out | apply qad | apply qaa | apply qac) | exact HB.out))) : w.heap.size ≤ gb113)); have n3_ := qab.mk ((by rw [hg]; exact (qal (by repeat (first | (with_reducible first | exact HB.out | apply qad | apply qaa | apply qac) | exact HB.out))) : w.heap.size ≤ gb113)); clear HB; have HB := n0_; have BK113 := n1_; have GW113 := n2_; have GE113 := n3_; clear n0_ n1_ n2_ n3_; clear hb hbox hg; have hcz17_0 : w16.cell? ⟨gb113, 0, none⟩ = some (.int .i64 a0_0) := (qai BK113.out 0).trans rfl; have hcz17_1 : w16.cell? ⟨gb113, 1, none⟩ = some (.int .i64 a0_1) := (qai BK113.out 1).trans rfl; have hfz17_0 := qah BK113.out 0; have hfz17_1 := qah BK113.out 1) | (go_at_call 108; (with_reducible refine (impl_isNode.calls a0_0 a0_1 a1 true _ A4.out).mono ?_); rintro e w18 ⟨rfl, hb⟩; have n0_ := qab.mk (qam (g := gb113) (o := .cells #[.int .i64 a0_0, .int .i64 a0_1] 32 (0, 0)) (by (with_reducible repeat (first | refine qag ?_ _ | refine qaj ?_ | refine qaf ?_ _)); exact BK113.out) hb); have n1_ := qab.mk (qak (by repeat (first | (with_reducible first | exact HB.out | apply qad | apply qaa | apply qac | refine qae ?_ GE113.out) | exact HB.out)) hb); clear BK113; clear HB; have BK113 := n0_; have HB := n1_; clear n0_ n1_; (try clear hb); (try clear hb2); (try clear hk); (try clear hi); have hcz19_0 : w18.cell? ⟨gb113, 0, none⟩ = some (.int .i64 a0_0) := (qai BK113.out 0).trans rfl; have hcz19_1 : w18.cell? ⟨gb113, 1, none⟩ = some (.int .i64 a0_1) := (qai BK113.out 1).trans rfl; have hfz19_0 := qah BK113.out 0; have hfz19_1 := qah BK113.out 1) | (go_at_call 118; (with_reducible refine (impl_NodeAt.calls a0_0 a0_1 (wrap64 ((Int.tmod a1 a0_0) + 1)) (wrap64 (Int.tdiv a1 a0_0)) t116 _ A15.out).mono ?_); rintro e w20 ⟨rfl, hb⟩; have n0_ := qab.mk (qam (g := gb113) (o := .cells #[.int .i64 a0_0, .int .i64 a0_1] 32 (0, 0)) (by (with_reducible repeat (first | refine qag ?_ _ | refine qaj ?_ | refine qaf ?_ _)); exact BK113.out) hb); have n1_ := qab.mk (qak (by repeat (first | (with_reducible first | exact HB.out | apply qad | apply qaa | apply qac | refine qae ?_ GE113.out) | exact HB.out)) hb); clear BK113; clear HB; have BK113 := n0_; have HB := n1_; clear n0_ n1_; (try clear hb); (try clear hb2); (try clear hk); (try clear hi))); try go_wp2_with (first | ((with_reducible refine qas (N := 3) rfl ?_); refine qar ?hg (N := 3) ?hd (cs := #[.int .i64 a0_0, .int .i64 a0_1]) (t := 32) ?hr ?_; (case hd => rfl); (case hg => rfl); (case hr => first | (go_simp; done) | (go_simp; rfl)); intro gb113 hg w16 hbox hb; have n0_ := qab.mk (qak (by repeat (first | (with_reducible first | exact HB.out | apply qad | apply qaa | apply qac) | exact HB.out)) hb); have n1_ := qab.mk (hbox); have n2_ := qab.mk ((by rw [hg]; exact (qal (by repeat (first | (with_reducible first | exact HB.out | apply qad | apply qaa | apply qac) | exact HB.out))) : w.heap.size ≤ gb113)); have n3_ := qab.mk ((by rw [hg]; exact (qal (by repeat (first | (with_reducible first | exact HB.out | apply qad | apply qaa | apply qac) | exact HB.out))) : w.heap.size ≤ gb113)); clear HB; have HB := n0_; have BK113 := n1_; have GW113 := n2_; have GE113 := n3_; clear n0_ n1_ n2_ n3_; clear hb hbox hg; have hcz17_0 : w16.cell? ⟨gb113, 0, none⟩ = some (.int .i64 a0_0) := (qai BK113.out 0).trans rfl; have hcz17_1 : w16.cell? ⟨gb113, 1, none⟩ = some (.int .i64 a0_1) := (qai BK113.out 1).trans rfl; have hfz17_0 := qah BK113.out 0; have hfz17_1 := qah BK113.out 1) | (go_at_call 108; (with_reducible refine (impl_isNode.calls a0_0 a0_1 a1 true _ A4.out).mono ?_); rintro e w18 ⟨rfl, hb⟩; have n0_ := qab.mk (qam (g := gb113) (o := .cells #[.int .i64 a0_0, .int .i64 a0_1] 32 (0, 0)) (by (with_reducible repeat (first | refine qag ?_ _ | refine qaj ?_ | refine qaf ?_ _)); exact BK113.out) hb); have n1_ := qab.mk (qak (by repeat (first | (with_reducible first | exact HB.out | apply qad | apply qaa | apply qac | refine qae ?_ GE113.out) | exact HB.out)) hb); clear BK113; clear HB; have BK113 := n0_; have HB := n1_; clear n0_ n1_; (try clear hb); (try clear hb2); (try clear hk); (try clear hi); have hcz19_0 : w18.cell? ⟨gb113, 0, none⟩ = some (.int .i64 a0_0) := (qai BK113.out 0).trans rfl; have hcz19_1 : w18.cell? ⟨gb113, 1, none⟩ = some (.int .i64 a0_1) := (qai BK113.out 1).trans rfl; have hfz19_0 := qah BK113.out 0; have hfz19_1 := qah BK113.out 1) | (go_at_call 118; (with_reducible refine (impl_NodeAt.calls a0_0 a0_1 (wrap64 ((Int.tmod a1 a0_0) + 1)) (wrap64 (Int.tdiv a1 a0_0)) t116 _ A15.out).mono ?_); rintro e w20 ⟨rfl, hb⟩; have n0_ := qab.mk (qam (g := gb113) (o := .cells #[.int .i64 a0_0, .int .i64 a0_1] 32 (0, 0)) (by (with_reducible repeat (first | refine qag ?_ _ | refine qaj ?_ | refine qaf ?_ _)); exact BK113.out) hb); have n1_ := qab.mk (qak (by repeat (first | (with_reducible first | exact HB.out | apply qad | apply qaa | apply qac | refine qae ?_ GE113.out) | exact HB.out)) hb); clear BK113; clear HB; have BK113 := n0_; have HB := n1_; clear n0_ n1_; (try clear hb); (try clear hb2); (try clear hk); (try clear hi))))
     go_ret
     exact ⟨by first | rfl | (simp [errW_none, errW_some] <;> rfl) | (simp [*, errW_none, errW_some] <;> rfl), by repeat (first | (with_reducible first | exact HB.out | apply qad | apply qaa | apply qac | refine qae ?_ GE113.out) | exact HB.out)⟩
    ·rw [if_neg c14] at H
     have c14b0 : (a2 == 1) = false := beq_eq_false_iff_ne.mpr c14
     have c14b1 : (a2 != 1) = true := bne_iff_ne.mpr c14
     by_cases c21 : a2 = 2
     ·rw [if_pos c21] at H
      have c21b0 : (a2 == 2) = true := beq_iff_eq.mpr c21
      have c21b1 : (a2 != 2) = false := bne_eq_false_iff_eq.mpr c21
      clear c21
      replace H := Option.bind_eq_some_iff.mp H
      obtain ⟨t117, A220, H⟩ := H
      try dsimp only at H
      have A22 := qab.mk A220
      clear A220
      obtain rfl := Option.some.inj H
      go_enter Try.func62, Try.ntmps62
      go_wp2_with (first | ((with_reducible refine qas (N := 3) rfl ?_); refine qar ?hg (N := 3) ?hd (cs := #[.int .i64 a0_0, .int .i64 a0_1]) (t := 32) ?hr ?_; (case hd => rfl); (case hg => rfl); (case hr => first | (go_simp; done) | (go_simp; rfl)); intro gb113 hg w23 hbox hb; have n0_ := qab.mk (qak (by repeat (first | (with_reducible first | exact HB.out | apply qad | apply qaa | apply qac) | exact HB.out)) hb); have n1_ := qab.mk (hbox); have n2_ := qab.mk ((by rw [hg]; exact (qal (by repeat (first | (with_reducible first | exact HB.out | apply qad | apply qaa | apply qac) | exact HB.out))) : w.heap.size ≤ gb113)); have n3_ := qab.mk ((by rw [hg]; exact (qal (by repeat (first | (with_reducible first | exact HB.out | apply qad | apply qaa | apply qac) | exact HB.out))) : w.heap.size ≤ gb113)); clear HB; have HB := n0_; have BK113 := n1_; have GW113 := n2_; have GE113 := n3_; clear n0_ n1_ n2_ n3_; clear hb hbox hg; have hcz24_0 : w23.cell? ⟨gb113, 0, none⟩ = some (.int .i64 a0_0) := (qai BK113.out 0).trans rfl; have hcz24_1 : w23.cell? ⟨gb113, 1, none⟩ = some (.int .i64 a0_1) := (qai BK113.out 1).trans rfl; have hfz24_0 := qah BK113.out 0; have hfz24_1 := qah BK113.out 1) | (go_at_call 108; (with_reducible refine (impl_isNode.calls a0_0 a0_1 a1 true _ A4.out).mono ?_); rintro e w25 ⟨rfl, hb⟩; have n0_ := qab.mk (qam (g := gb113) (o := .cells #[.int .i64 a0_0, .int .i64 a0_1] 32 (0, 0)) (by (with_reducible repeat (first | refine qag ?_ _ | refine qaj ?_ | refine qaf ?_ _)); exact BK113.out) hb); have n1_ := qab.mk (qak (by repeat (first | (with_reducible first | exact HB.out | apply qad | apply qaa | apply qac | refine qae ?_ GE113.out) | exact HB.out)) hb); clear BK113; clear HB; have BK113 := n0_; have HB := n1_; clear n0_ n1_; (try clear hb); (try clear hb2); (try clear hk); (try clear hi); have hcz26_0 : w25.cell? ⟨gb113, 0, none⟩ = some (.int .i64 a0_0) := (qai BK113.out 0).trans rfl; have hcz26_1 : w25.cell? ⟨gb113, 1, none⟩ = some (.int .i64 a0_1) := (qai BK113.out 1).trans rfl; have hfz26_0 := qah BK113.out 0; have hfz26_1 := qah BK113.out 1) | (go_at_call 118; (with_reducible refine (impl_NodeAt.calls a0_0 a0_1 (Int.tmod a1 a0_0) (wrap64 ((wrap64 (Int.tdiv a1 a0_0)) + 1)) t117 _ A22.out).mono ?_); rintro e w27 ⟨rfl, hb⟩; have n0_ := qab.mk (qam (g := gb113) (o := .cells #[.int .i64 a0_0, .int .i64 a0_1] 32 (0, 0)) (by (with_reducible repeat (first | refine qag ?_ _ | refine qaj ?_ | refine qaf ?_ _)); exact BK113.out) hb); have n1_ := qab.mk (qak (by repeat (first | (with_reducible first | exact HB.out | apply qad | apply qaa | apply qac | refine qae ?_ GE113.out) | exact HB.out)) hb); clear BK113; clear HB; have BK113 := n0_; have HB := n1_; clear n0_ n1_; (try clear hb); (try clear hb2); (try clear hk); (try clear hi)))
      repeat (go_quiet (first | ((with_reducible refine qas (N := 3) rfl ?_); refine qar ?hg (N := 3) ?hd (cs := #[.int .i64 a0_0, .int .i64 a0_1]) (t := 32) ?hr ?_; (case hd => rfl); (case hg => rfl); (case hr => first | (go_simp; done) | (go_simp; rfl)); intro gb113 hg w23 hbox hb; have n0_ := qab.mk (qak (by repeat (first | (with_reducible first | exact HB.out | apply qad | apply qaa | apply qac) | exact HB.out)) hb); have n1_ := qab.mk (hbox); have n2_ := qab.mk ((by rw [hg]; exact (qal (by repeat (first | (with_reducible first | exact HB.out | apply qad | apply qaa | apply qac) | exact HB.out))) : w.heap.size ≤ gb113)); have n3_ := qab.mk ((by rw [hg]; exact (qal (by repeat (first | (with_reducible first | exact HB.out | apply qad | apply qaa | apply qac) | exact HB.out))) : w.heap.size ≤ gb113)); clear HB; have HB := n0_; have BK113 := n1_; have GW113 := n2_; have GE113 := n3_; clear n0_ n1_ n2_ n3_; clear hb hbox hg; have hcz24_0 : w23.cell? ⟨gb113, 0, none⟩ = some (.int .i64 a0_0) := (qai BK113.out 0).trans rfl; have hcz24_1 : w23.cell? ⟨gb113, 1, none⟩ = some (.int .i64 a0_1) := (qai BK113.out 1).trans rfl; have hfz24_0 := qah BK113.out 0; have hfz24_1 := qah BK113.out 1) | (go_at_call 108; (with_reducible refine (impl_isNode.calls a0_0 a0_1 a1 true _ A4.out).mono ?_); rintro e w25 ⟨rfl, hb⟩; have n0_ := qab.mk (qam (g := gb113) (o := .cells #[.int .i64 a0_0, .int .i64 a0_1] 32 (0, 0)) (by (with_reducible repeat (first | refine qag ?_ _ | refine qaj ?_ | refine qaf ?_ _)); exact BK113.out) hb); have n1_ := qab.mk (qak (by repeat (first | (with_reducible first | exact HB.out | apply qad | apply qaa | apply qac | refine qae ?_ GE113.out) | exact HB.out)) hb); clear BK113; clear HB; have BK113 := n0_; have HB := n1_; clear n0_ n1_; (try clear hb); (try clear hb2); (try clear hk); (try clear hi); have hcz26_0 : w25.cell? ⟨gb113, 0, none⟩ = some (.int .i64 a0_0) := (qai BK113.out 0).trans rfl; have hcz26_1 : w25.cell? ⟨gb113, 1, none⟩ = some (.int .i64 a0_1) := (qai BK113.out 1).trans rfl; have hfz26_0 := qah BK113.out 0; have hfz26_1 := qah BK113.out 1) | (go_at_call 118; (with_reducible refine (impl_NodeAt.calls a0_0 a0_1 (Int.tmod a1 a0_0) (wrap64 ((wrap64 (Int.tdiv a1 a0_0)) + 1)) t117 _ A22.out).mono ?_); rintro e w27 ⟨rfl, hb⟩; have n0_ := qab.mk (qam (g := gb113) (o := .cells #[.int .i64 a0_0, .int .i64 a0_1] 32 (0, 0)) (by (with_reducible repeat (first | refine qag ?_ _ | refine qaj ?_ | refine qaf ?_ _)); exact BK113.out) hb); have n1_ := qab.mk (qak (by repeat (first | (with_reducible first | exact HB.out | apply qad | apply qaa | apply qac | refine qae ?_ GE113.out) | exact HB.out)) hb); clear BK113; clear HB; have BK113 := n0_; have HB := n1_; clear n0_ n1_; (try clear hb); (try clear hb2); (try clear hk); (try clear hi))); try go_wp2_with (first | ((with_reducible refine qas (N := 3) rfl ?_); refine qar ?hg (N := 3) ?hd (cs := #[.int .i64 a0_0, .int .i64 a0_1]) (t := 32) ?hr ?_; (case hd => rfl); (case hg => rfl); (case hr => first | (go_simp; done) | (go_simp; rfl)); intro gb113 hg w23 hbox hb; have n0_ := qab.mk (qak (by repeat (first | (with_reducible first | exact HB.out | apply qad | apply qaa | apply qac) | exact HB.out)) hb); have n1_ := qab.mk (hbox); have n2_ := qab.mk ((by rw [hg]; exact (qal (by repeat (first | (with_reducible first | exact HB.out | apply qad | apply qaa | apply qac) | exact HB.out))) : w.heap.size ≤ gb113)); have n3_ := qab.mk ((by rw [hg]; exact (qal (by repeat (first | (with_reducible first | exact HB.out | apply qad | apply qaa | apply qac) | exact HB.out))) : w.heap.size ≤ gb113)); clear HB; have HB := n0_; have BK113 := n1_; have GW113 := n2_; have GE113 := n3_; clear n0_ n1_ n2_ n3_; clear hb hbox hg; have hcz24_0 : w23.cell? ⟨gb113, 0, none⟩ = some (.int .i64 a0_0) := (qai BK113.out 0).trans rfl; have hcz24_1 : w23.cell? ⟨gb113, 1, none⟩ = some (.int .i64 a0_1) := (qai BK113.out 1).trans rfl; have hfz24_0 := qah BK113.out 0; have hfz24_1 := qah BK113.out 1) | (go_at_call 108; (with_reducible refine (impl_isNode.calls a0_0 a0_1 a1 true _ A4.out).mono ?_); rintro e w25 ⟨rfl, hb⟩; have n0_ := qab.mk (qam (g := gb113) (o := .cells #[.int .i64 a0_0, .int .i64 a0_1] 32 (0, 0)) (by (with_reducible repeat (first | refine qag ?_ _ | refine qaj ?_ | refine qaf ?_ _)); exact BK113.out) hb); have n1_ := qab.mk (qak (by repeat (first | (with_reducible first | exact HB.out | apply qad | apply qaa | apply qac | refine qae ?_ GE113.out) | exact HB.out)) hb); clear BK113; clear HB; have BK113 := n0_; have HB := n1_; clear n0_ n1_; (try clear hb); (try clear hb2); (try clear hk); (try clear hi); have hcz26_0 : w25.cell? ⟨gb113, 0, none⟩ = some (.int .i64 a0_0) := (qai BK113.out 0).trans rfl; have hcz26_1 : w25.cell? ⟨gb113, 1, none⟩ = some (.int .i64 a0_1) := (qai BK113.out 1).trans rfl; have hfz26_0 := qah BK113.out 0; have hfz26_1 := qah BK113.out 1) | (go_at_call 118; (with_reducible refine (impl_NodeAt.calls a0_0 a0_1 (Int.tmod a1 a0_0) (wrap64 ((wrap64 (Int.tdiv a1 a0_0)) + 1)) t117 _ A22.out).mono ?_); rintro e w27 ⟨rfl, hb⟩; have n0_ := qab.mk (qam (g := gb113) (o := .cells #[.int .i64 a0_0, .int .i64 a0_1] 32 (0, 0)) (by (with_reducible repeat (first | refine qag ?_ _ | refine qaj ?_ | refine qaf ?_ _)); exact BK113.out) hb); have n1_ := qab.mk (qak (by repeat (first | (with_reducible first | exact HB.out | apply qad | apply qaa | apply qac | refine qae ?_ GE113.out) | exact HB.out)) hb); clear BK113; clear HB; have BK113 := n0_; have HB := n1_; clear n0_ n1_; (try clear hb); (try clear hb2); (try clear hk); (try clear hi))))
      go_ret
      exact ⟨by first | rfl | (simp [errW_none, errW_some] <;> rfl) | (simp [*, errW_none, errW_some] <;> rfl), by repeat (first | (with_reducible first | exact HB.out | apply qad | apply qaa | apply qac | refine qae ?_ GE113.out) | exact HB.out)⟩
     ·rw [if_neg c21] at H
      have c21b0 : (a2 == 2) = false := beq_eq_false_iff_ne.mpr c21
      have c21b1 : (a2 != 2) = true := bne_iff_ne.mpr c21
      by_cases c28 : a2 = 3
      ·rw [if_pos c28] at H
       have c28b0 : (a2 == 3) = true := beq_iff_eq.mpr c28
       have c28b1 : (a2 != 3) = false := bne_eq_false_iff_eq.mpr c28
       clear c28
       replace H := Option.bind_eq_some_iff.mp H
       obtain ⟨t118, A290, H⟩ := H
       try dsimp only at H
       have A29 := qab.mk A290
       clear A290
       obtain rfl := Option.some.inj H
       go_enter Try.func62, Try.ntmps62
       go_wp2_with (first | ((with_reducible refine qas (N := 3) rfl ?_); refine qar ?hg (N := 3) ?hd (cs := #[.int .i64 a0_0, .int .i64 a0_1]) (t := 32) ?hr ?_; (case hd => rfl); (case hg => rfl); (case hr => first | (go_simp; done) | (go_simp; rfl)); intro gb113 hg w30 hbox hb; have n0_ := qab.mk (qak (by repeat (first | (with_reducible first | exact HB.out | apply qad | apply qaa | apply qac) | exact HB.out)) hb); have n1_ := qab.mk (hbox); have n2_ := qab.mk ((by rw [hg]; exact (qal (by repeat (first | (with_reducible first | exact HB.out | apply qad | apply qaa | apply qac) | exact HB.out))) : w.heap.size ≤ gb113)); have n3_ := qab.mk ((by rw [hg]; exact (qal (by repeat (first | (with_reducible first | exact HB.out | apply qad | apply qaa | apply qac) | exact HB.out))) : w.heap.size ≤ gb113)); clear HB; have HB := n0_; have BK113 := n1_; have GW113 := n2_; have GE113 := n3_; clear n0_ n1_ n2_ n3_; clear hb hbox hg; have hcz31_0 : w30.cell? ⟨gb113, 0, none⟩ = some (.int .i64 a0_0) := (qai BK113.out 0).trans rfl; have hcz31_1 : w30.cell? ⟨gb113, 1, none⟩ = some (.int .i64 a0_1) := (qai BK113.out 1).trans rfl; have hfz31_0 := qah BK113.out 0; have hfz31_1 := qah BK113.out 1) | (go_at_call 108; (with_reducible refine (impl_isNode.calls a0_0 a0_1 a1 true _ A4.out).mono ?_); rintro e w32 ⟨rfl, hb⟩; have n0_ := qab.mk (qam (g := gb113) (o := .cells #[.int .i64 a0_0, .int .i64 a0_1] 32 (0, 0)) (by (with_reducible repeat (first | refine qag ?_ _ | refine qaj ?_ | refine qaf ?_ _)); exact BK113.out) hb); have n1_ := qab.mk (qak (by repeat (first | (with_reducible first | exact HB.out | apply qad | apply qaa | apply qac | refine qae ?_ GE113.out) | exact HB.out)) hb); clear BK113; clear HB; have BK113 := n0_; have HB := n1_; clear n0_ n1_; (try clear hb); (try clear hb2); (try clear hk); (try clear hi); have hcz33_0 : w32.cell? ⟨gb113, 0, none⟩ = some (.int .i64 a0_0) := (qai BK113.out 0).trans rfl; have hcz33_1 : w32.cell? ⟨gb113, 1, none⟩ = some (.int .i64 a0_1) := (qai BK113.out 1).trans rfl; have hfz33_0 := qah BK113.out 0; have hfz33_1 := qah BK113.out 1) | (go_at_call 118; (with_reducible refine (impl_NodeAt.calls a0_0 a0_1 (wrap64 ((Int.tmod a1 a0_0) - 1)) (wrap64 (Int.tdiv a1 a0_0)) t118 _ A29.out).mono ?_); rintro e w34 ⟨rfl, hb⟩; have n0_ := qab.mk (qam (g := gb113) (o := .cells #[.int .i64 a0_0, .int .i64 a0_1] 32 (0, 0)) (by (with_reducible repeat (first | refine qag ?_ _ | refine qaj ?_ | refine qaf ?_ _)); exact BK113.out) hb); have n1_ := qab.mk (qak (by repeat (first | (with_reducible first | exact HB.out | apply qad | apply qaa | apply qac | refine qae ?_ GE113.out) | exact HB.out)) hb); clear BK113; clear HB; have BK113 := n0_; have HB := n1_; clear n0_ n1_; (try clear hb); (try clear hb2); (try clear hk); (try clear hi)))
       repeat (go_quiet (first | ((with_reducible refine qas (N := 3) rfl ?_); refine qar ?hg (N := 3) ?hd (cs := #[.int .i64 a0_0, .int .i64 a0_1]) (t := 32) ?hr ?_; (case hd => rfl); (case hg => rfl); (case hr => first | (go_simp; done) | (go_simp; rfl)); intro gb113 hg w30 hbox hb; have n0_ := qab.mk (qak (by repeat (first | (with_reducible first | exact HB.out | apply qad | apply qaa | apply qac) | exact HB.out)) hb); have n1_ := qab.mk (hbox); have n2_ := qab.mk ((by rw [hg]; exact (qal (by repeat (first | (with_reducible first | exact HB.out | apply qad | apply qaa | apply qac) | exact HB.out))) : w.heap.size ≤ gb113)); have n3_ := qab.mk ((by rw [hg]; exact (qal (by repeat (first | (with_reducible first | exact HB.out | apply qad | apply qaa | apply qac) | exact HB.out))) : w.heap.size ≤ gb113)); clear HB; have HB := n0_; have BK113 := n1_; have GW113 := n2_; have GE113 := n3_; clear n0_ n1_ n2_ n3_; clear hb hbox hg; have hcz31_0 : w30.cell? ⟨gb113, 0, none⟩ = some (.int .i64 a0_0) := (qai BK113.out 0).trans rfl; have hcz31_1 : w30.cell? ⟨gb113, 1, none⟩ = some (.int .i64 a0_1) := (qai BK113.out 1).trans rfl; have hfz31_0 := qah BK113.out 0; have hfz31_1 := qah BK113.out 1) | (go_at_call 108; (with_reducible refine (impl_isNode.calls a0_0 a0_1 a1 true _ A4.out).mono ?_); rintro e w32 ⟨rfl, hb⟩; have n0_ := qab.mk (qam (g := gb113) (o := .cells #[.int .i64 a0_0, .int .i64 a0_1] 32 (0, 0)) (by (with_reducible repeat (first | refine qag ?_ _ | refine qaj ?_ | refine qaf ?_ _)); exact BK113.out) hb); have n1_ := qab.mk (qak (by repeat (first | (with_reducible first | exact HB.out | apply qad | apply qaa | apply qac | refine qae ?_ GE113.out) | exact HB.out)) hb); clear BK113; clear HB; have BK113 := n0_; have HB := n1_; clear n0_ n1_; (try clear hb); (try clear hb2); (try clear hk); (try clear hi); have hcz33_0 : w32.cell? ⟨gb113, 0, none⟩ = some (.int .i64 a0_0) := (qai BK113.out 0).trans rfl; have hcz33_1 : w32.cell? ⟨gb113, 1, none⟩ = some (.int .i64 a0_1) := (qai BK113.out 1).trans rfl; have hfz33_0 := qah BK113.out 0; have hfz33_1 := qah BK113.out 1) | (go_at_call 118; (with_reducible refine (impl_NodeAt.calls a0_0 a0_1 (wrap64 ((Int.tmod a1 a0_0) - 1)) (wrap64 (Int.tdiv a1 a0_0)) t118 _ A29.out).mono ?_); rintro e w34 ⟨rfl, hb⟩; have n0_ := qab.mk (qam (g := gb113) (o := .cells #[.int .i64 a0_0, .int .i64 a0_1] 32 (0, 0)) (by (with_reducible repeat (first | refine qag ?_ _ | refine qaj ?_ | refine qaf ?_ _)); exact BK113.out) hb); have n1_ := qab.mk (qak (by repeat (first | (with_reducible first | exact HB.out | apply qad | apply qaa | apply qac | refine qae ?_ GE113.out) | exact HB.out)) hb); clear BK113; clear HB; have BK113 := n0_; have HB := n1_; clear n0_ n1_; (try clear hb); (try clear hb2); (try clear hk); (try clear hi))); try go_wp2_with (first | ((with_reducible refine qas (N := 3) rfl ?_); refine qar ?hg (N := 3) ?hd (cs := #[.int .i64 a0_0, .int .i64 a0_1]) (t := 32) ?hr ?_; (case hd => rfl); (case hg => rfl); (case hr => first | (go_simp; done) | (go_simp; rfl)); intro gb113 hg w30 hbox hb; have n0_ := qab.mk (qak (by repeat (first | (with_reducible first | exact HB.out | apply qad | apply qaa | apply qac) | exact HB.out)) hb); have n1_ := qab.mk (hbox); have n2_ := qab.mk ((by rw [hg]; exact (qal (by repeat (first | (with_reducible first | exact HB.out | apply qad | apply qaa | apply qac) | exact HB.out))) : w.heap.size ≤ gb113)); have n3_ := qab.mk ((by rw [hg]; exact (qal (by repeat (first | (with_reducible first | exact HB.out | apply qad | apply qaa | apply qac) | exact HB.out))) : w.heap.size ≤ gb113)); clear HB; have HB := n0_; have BK113 := n1_; have GW113 := n2_; have GE113 := n3_; clear n0_ n1_ n2_ n3_; clear hb hbox hg; have hcz31_0 : w30.cell? ⟨gb113, 0, none⟩ = some (.int .i64 a0_0) := (qai BK113.out 0).trans rfl; have hcz31_1 : w30.cell? ⟨gb113, 1, none⟩ = some (.int .i64 a0_1) := (qai BK113.out 1).trans rfl; have hfz31_0 := qah BK113.out 0; have hfz31_1 := qah BK113.out 1) | (go_at_call 108; (with_reducible refine (impl_isNode.calls a0_0 a0_1 a1 true _ A4.out).mono ?_); rintro e w32 ⟨rfl, hb⟩; have n0_ := qab.mk (qam (g := gb113) (o := .cells #[.int .i64 a0_0, .int .i64 a0_1] 32 (0, 0)) (by (with_reducible repeat (first | refine qag ?_ _ | refine qaj ?_ | refine qaf ?_ _)); exact BK113.out) hb); have n1_ := qab.mk (qak (by repeat (first | (with_reducible first | exact HB.out | apply qad | apply qaa | apply qac | refine qae ?_ GE113.out) | exact HB.out)) hb); clear BK113; clear HB; have BK113 := n0_; have HB := n1_; clear n0_ n1_; (try clear hb); (try clear hb2); (try clear hk); (try clear hi); have hcz33_0 : w32.cell? ⟨gb113, 0, none⟩ = some (.int .i64 a0_0) := (qai BK113.out 0).trans rfl; have hcz33_1 : w32.cell? ⟨gb113, 1, none⟩ = some (.int .i64 a0_1) := (qai BK113.out 1).trans rfl; have hfz33_0 := qah BK113.out 0; have hfz33_1 := qah BK113.out 1) | (go_at_call 118; (with_reducible refine (impl_NodeAt.calls a0_0 a0_1 (wrap64 ((Int.tmod a1 a0_0) - 1)) (wrap64 (Int.tdiv a1 a0_0)) t118 _ A29.out).mono ?_); rintro e w34 ⟨rfl, hb⟩; have n0_ := qab.mk (qam (g := gb113) (o := .cells #[.int .i64 a0_0, .int .i64 a0_1] 32 (0, 0)) (by (with_reducible repeat (first | refine qag ?_ _ | refine qaj ?_ | refine qaf ?_ _)); exact BK113.out) hb); have n1_ := qab.mk (qak (by repeat (first | (with_reducible first | exact HB.out | apply qad | apply qaa | apply qac | refine qae ?_ GE113.out) | exact HB.out)) hb); clear BK113; clear HB; have BK113 := n0_; have HB := n1_; clear n0_ n1_; (try clear hb); (try clear hb2); (try clear hk); (try clear hi))))
       go_ret
       exact ⟨by first | rfl | (simp [errW_none, errW_some] <;> rfl) | (simp [*, errW_none, errW_some] <;> rfl), by repeat (first | (with_reducible first | exact HB.out | apply qad | apply qaa | apply qac | refine qae ?_ GE113.out) | exact HB.out)⟩
      ·rw [if_neg c28] at H
       have c28b0 : (a2 == 3) = false := beq_eq_false_iff_ne.mpr c28
       have c28b1 : (a2 != 3) = true := bne_iff_ne.mpr c28
       by_cases c35 : a2 = 4
       ·rw [if_pos c35] at H
        have c35b0 : (a2 == 4) = true := beq_iff_eq.mpr c35
        have c35b1 : (a2 != 4) = false := bne_eq_false_iff_eq.mpr c35
        clear c35
        obtain rfl := Option.some.inj H
        go_enter Try.func62, Try.ntmps62
        go_wp2_with (first | ((with_reducible refine qas (N := 3) rfl ?_); refine qar ?hg (N := 3) ?hd (cs := #[.int .i64 a0_0, .int .i64 a0_1]) (t := 32) ?hr ?_; (case hd => rfl); (case hg => rfl); (case hr => first | (go_simp; done) | (go_simp; rfl)); intro gb113 hg w36 hbox hb; have n0_ := qab.mk (qak (by repeat (first | (with_reducible first | exact HB.out | apply qad | apply qaa | apply qac) | exact HB.out)) hb); have n1_ := qab.mk (hbox); have n2_ := qab.mk ((by rw [hg]; exact (qal (by repeat (first | (with_reducible first | exact HB.out | apply qad | apply qaa | apply qac) | exact HB.out))) : w.heap.size ≤ gb113)); have n3_ := qab.mk ((by rw [hg]; exact (qal (by repeat (first | (with_reducible first | exact HB.out | apply qad | apply qaa | apply qac) | exact HB.out))) : w.heap.size ≤ gb113)); clear HB; have HB := n0_; have BK113 := n1_; have GW113 := n2_; have GE113 := n3_; clear n0_ n1_ n2_ n3_; clear hb hbox hg; have hcz37_0 : w36.cell? ⟨gb113, 0, none⟩ = some (.int .i64 a0_0) := (qai BK113.out 0).trans rfl; have hcz37_1 : w36.cell? ⟨gb113, 1, none⟩ = some (.int .i64 a0_1) := (qai BK113.out 1).trans rfl; have hfz37_0 := qah BK113.out 0; have hfz37_1 := qah BK113.out 1) | (go_at_call 108; (with_reducible refine (impl_isNode.calls a0_0 a0_1 a1 true _ A4.out).mono ?_); rintro e w38 ⟨rfl, hb⟩; have n0_ := qab.mk (qam (g := gb113) (o := .cells #[.int .i64 a0_0, .int .i64 a0_1] 32 (0, 0)) (by (with_reducible repeat (first | refine qag ?_ _ | refine qaj ?_ | refine qaf ?_ _)); exact BK113.out) hb); have n1_ := qab.mk (qak (by repeat (first | (with_reducible first | exact HB.out | apply qad | apply qaa | apply qac | refine qae ?_ GE113.out) | exact HB.out)) hb); clear BK113; clear HB; have BK113 := n0_; have HB := n1_; clear n0_ n1_; (try clear hb); (try clear hb2); (try clear hk); (try clear hi); have hcz39_0 : w38.cell? ⟨gb113, 0, none⟩ = some (.int .i64 a0_0) := (qai BK113.out 0).trans rfl; have hcz39_1 : w38.cell? ⟨gb113, 1, none⟩ = some (.int .i64 a0_1) := (qai BK113.out 1).trans rfl; have hfz39_0 := qah BK113.out 0; have hfz39_1 := qah BK113.out 1))
        repeat (go_quiet (first | ((with_reducible refine qas (N := 3) rfl ?_); refine qar ?hg (N := 3) ?hd (cs := #[.int .i64 a0_0, .int .i64 a0_1]) (t := 32) ?hr ?_; (case hd => rfl); (case hg => rfl); (case hr => first | (go_simp; done) | (go_simp; rfl)); intro gb113 hg w36 hbox hb; have n0_ := qab.mk (qak (by repeat (first | (with_reducible first | exact HB.out | apply qad | apply qaa | apply qac) | exact HB.out)) hb); have n1_ := qab.mk (hbox); have n2_ := qab.mk ((by rw [hg]; exact (qal (by repeat (first | (with_reducible first | exact HB.out | apply qad | apply qaa | apply qac) | exact HB.out))) : w.heap.size ≤ gb113)); have n3_ := qab.mk ((by rw [hg]; exact (qal (by repeat (first | (with_reducible first | exact HB.out | apply qad | apply qaa | apply qac) | exact HB.out))) : w.heap.size ≤ gb113)); clear HB; have HB := n0_; have BK113 := n1_; have GW113 := n2_; have GE113 := n3_; clear n0_ n1_ n2_ n3_; clear hb hbox hg; have hcz37_0 : w36.cell? ⟨gb113, 0, none⟩ = some (.int .i64 a0_0) := (qai BK113.out 0).trans rfl; have hcz37_1 : w36.cell? ⟨gb113, 1, none⟩ = some (.int .i64 a0_1) := (qai BK113.out 1).trans rfl; have hfz37_0 := qah BK113.out 0; have hfz37_1 := qah BK113.out 1) | (go_at_call 108; (with_reducible refine (impl_isNode.calls a0_0 a0_1 a1 true _ A4.out).mono ?_); rintro e w38 ⟨rfl, hb⟩; have n0_ := qab.mk (qam (g := gb113) (o := .cells #[.int .i64 a0_0, .int .i64 a0_1] 32 (0, 0)) (by (with_reducible repeat (first | refine qag ?_ _ | refine qaj ?_ | refine qaf ?_ _)); exact BK113.out) hb); have n1_ := qab.mk (qak (by repeat (first | (with_reducible first | exact HB.out | apply qad | apply qaa | apply qac | refine qae ?_ GE113.out) | exact HB.out)) hb); clear BK113; clear HB; have BK113 := n0_; have HB := n1_; clear n0_ n1_; (try clear hb); (try clear hb2); (try clear hk); (try clear hi); have hcz39_0 : w38.cell? ⟨gb113, 0, none⟩ = some (.int .i64 a0_0) := (qai BK113.out 0).trans rfl; have hcz39_1 : w38.cell? ⟨gb113, 1, none⟩ = some (.int .i64 a0_1) := (qai BK113.out 1).trans rfl; have hfz39_0 := qah BK113.out 0; have hfz39_1 := qah BK113.out 1)); try go_wp2_with (first | ((with_reducible refine qas (N := 3) rfl ?_); refine qar ?hg (N := 3) ?hd (cs := #[.int .i64 a0_0, .int .i64 a0_1]) (t := 32) ?hr ?_; (case hd => rfl); (case hg => rfl); (case hr => first | (go_simp; done) | (go_simp; rfl)); intro gb113 hg w36 hbox hb; have n0_ := qab.mk (qak (by repeat (first | (with_reducible first | exact HB.out | apply qad | apply qaa | apply qac) | exact HB.out)) hb); have n1_ := qab.mk (hbox); have n2_ := qab.mk ((by rw [hg]; exact (qal (by repeat (first | (with_reducible first | exact HB.out | apply qad | apply qaa | apply qac) | exact HB.out))) : w.heap.size ≤ gb113)); have n3_ := qab.mk ((by rw [hg]; exact (qal (by repeat (first | (with_reducible first | exact HB.out | apply qad | apply qaa | apply qac) | exact HB.out))) : w.heap.size ≤ gb113)); clear HB; have HB := n0_; have BK113 := n1_; have GW113 := n2_; have GE113 := n3_; clear n0_ n1_ n2_ n3_; clear hb hbox hg; have hcz37_0 : w36.cell? ⟨gb113, 0, none⟩ = some (.int .i64 a0_0) := (qai BK113.out 0).trans rfl; have hcz37_1 : w36.cell? ⟨gb113, 1, none⟩ = some (.int .i64 a0_1) := (qai BK113.out 1).trans rfl; have hfz37_0 := qah BK113.out 0; have hfz37_1 := qah BK113.out 1) | (go_at_call 108; (with_reducible refine (impl_isNode.calls a0_0 a0_1 a1 true _ A4.out).mono ?_); rintro e w38 ⟨rfl, hb⟩; have n0_ := qab.mk (qam (g := gb113) (o := .cells #[.int .i64 a0_0, .int .i64 a0_1] 32 (0, 0)) (by (with_reducible repeat (first | refine qag ?_ _ | refine qaj ?_ | refine qaf ?_ _)); exact BK113.out) hb); have n1_ := qab.mk (qak (by repeat (first | (with_reducible first | exact HB.out | apply qad | apply qaa | apply qac | refine qae ?_ GE113.out) | exact HB.out)) hb); clear BK113; clear HB; have BK113 := n0_; have HB := n1_; clear n0_ n1_; (try clear hb); (try clear hb2); (try clear hk); (try clear hi); have hcz39_0 : w38.cell? ⟨gb113, 0, none⟩ = some (.int .i64 a0_0) := (qai BK113.out 0).trans rfl; have hcz39_1 : w38.cell? ⟨gb113, 1, none⟩ = some (.int .i64 a0_1) := (qai BK113.out 1).trans rfl; have hfz39_0 := qah BK113.out 0; have hfz39_1 := qah BK113.out 1)))
        go_ret
        exact ⟨by first | rfl | (simp [errW_none, errW_some] <;> rfl) | (simp [*, errW_none, errW_some] <;> rfl), by repeat (first | (with_reducible first | exact HB.out | apply qad | apply qaa | apply qac | refine qae ?_ GE113.out) | exact HB.out)⟩
       ·rw [if_neg c35] at H
        have c35b0 : (a2 == 4) = false := beq_eq_false_iff_ne.mpr c35
        have c35b1 : (a2 != 4) = true := bne_iff_ne.mpr c35
        obtain rfl := Option.some.inj H
        go_enter Try.func62, Try.ntmps62
        go_wp2_with (first | ((with_reducible refine qas (N := 3) rfl ?_); refine qar ?hg (N := 3) ?hd (cs := #[.int .i64 a0_0, .int .i64 a0_1]) (t := 32) ?hr ?_; (case hd => rfl); (case hg => rfl); (case hr => first | (go_simp; done) | (go_simp; rfl)); intro gb113 hg w40 hbox hb; have n0_ := qab.mk (qak (by repeat (first | (with_reducible first | exact HB.out | apply qad | apply qaa | apply qac) | exact HB.out)) hb); have n1_ := qab.mk (hbox); have n2_ := qab.mk ((by rw [hg]; exact (qal (by repeat (first | (with_reducible first | exact HB.out | apply qad | apply qaa | apply qac) | exact HB.out))) : w.heap.size ≤ gb113)); have n3_ := qab.mk ((by rw [hg]; exact (qal (by repeat (first | (with_reducible first | exact HB.out | apply qad | apply qaa | apply qac) | exact HB.out))) : w.heap.size ≤ gb113)); clear HB; have HB := n0_; have BK113 := n1_; have GW113 := n2_; have GE113 := n3_; clear n0_ n1_ n2_ n3_; clear hb hbox hg; have hcz41_0 : w40.cell? ⟨gb113, 0, none⟩ = some (.int .i64 a0_0) := (qai BK113.out 0).trans rfl; have hcz41_1 : w40.cell? ⟨gb113, 1, none⟩ = some (.int .i64 a0_1) := (qai BK113.out 1).trans rfl; have hfz41_0 := qah BK113.out 0; have hfz41_1 := qah BK113.out 1) | (go_at_call 108; (with_reducible refine (impl_isNode.calls a0_0 a0_1 a1 true _ A4.out).mono ?_); rintro e w42 ⟨rfl, hb⟩; have n0_ := qab.mk (qam (g := gb113) (o := .cells #[.int .i64 a0_0, .int .i64 a0_1] 32 (0, 0)) (by (with_reducible repeat (first | refine qag ?_ _ | refine qaj ?_ | refine qaf ?_ _)); exact BK113.out) hb); have n1_ := qab.mk (qak (by repeat (first | (with_reducible first | exact HB.out | apply qad | apply qaa | apply qac | refine qae ?_ GE113.out) | exact HB.out)) hb); clear BK113; clear HB; have BK113 := n0_; have HB := n1_; clear n0_ n1_; (try clear hb); (try clear hb2); (try clear hk); (try clear hi); have hcz43_0 : w42.cell? ⟨gb113, 0, none⟩ = some (.int .i64 a0_0) := (qai BK113.out 0).trans rfl; have hcz43_1 : w42.cell? ⟨gb113, 1, none⟩ = some (.int .i64 a0_1) := (qai BK113.out 1).trans rfl; have hfz43_0 := qah BK113.out 0; have hfz43_1 := qah BK113.out 1))
        repeat (go_quiet (first | ((with_reducible refine qas (N := 3) rfl ?_); refine qar ?hg (N := 3) ?hd (cs := #[.int .i64 a0_0, .int .i64 a0_1]) (t := 32) ?hr ?_; (case hd => rfl); (case hg => rfl); (case hr => first | (go_simp; done) | (go_simp; rfl)); intro gb113 hg w40 hbox hb; have n0_ := qab.mk (qak (by repeat (first | (with_reducible first | exact HB.out | apply qad | apply qaa | apply qac) | exact HB.out)) hb); have n1_ := qab.mk (hbox); have n2_ := qab.mk ((by rw [hg]; exact (qal (by repeat (first | (with_reducible first | exact HB.out | apply qad | apply qaa | apply qac) | exact HB.out))) : w.heap.size ≤ gb113)); have n3_ := qab.mk ((by rw [hg]; exact (qal (by repeat (first | (with_reducible first | exact HB.out | apply qad | apply qaa | apply qac) | exact HB.out))) : w.heap.size ≤ gb113)); clear HB; have HB := n0_; have BK113 := n1_; have GW113 := n2_; have GE113 := n3_; clear n0_ n1_ n2_ n3_; clear hb hbox hg; have hcz41_0 : w40.cell? ⟨gb113, 0, none⟩ = some (.int .i64 a0_0) := (qai BK113.out 0).trans rfl; have hcz41_1 : w40.cell? ⟨gb113, 1, none⟩ = some (.int .i64 a0_1) := (qai BK113.out 1).trans rfl; have hfz41_0 := qah BK113.out 0; have hfz41_1 := qah BK113.out 1) | (go_at_call 108; (with_reducible refine (impl_isNode.calls a0_0 a0_1 a1 true _ A4.out).mono ?_); rintro e w42 ⟨rfl, hb⟩; have n0_ := qab.mk (qam (g := gb113) (o := .cells #[.int .i64 a0_0, .int .i64 a0_1] 32 (0, 0)) (by (with_reducible repeat (first | refine qag ?_ _ | refine qaj ?_ | refine qaf ?_ _)); exact BK113.out) hb); have n1_ := qab.mk (qak (by repeat (first | (with_reducible first | exact HB.out | apply qad | apply qaa | apply qac | refine qae ?_ GE113.out) | exact HB.out)) hb); clear BK113; clear HB; have BK113 := n0_; have HB := n1_; clear n0_ n1_; (try clear hb); (try clear hb2); (try clear hk); (try clear hi); have hcz43_0 : w42.cell? ⟨gb113, 0, none⟩ = some (.int .i64 a0_0) := (qai BK113.out 0).trans rfl; have hcz43_1 : w42.cell? ⟨gb113, 1, none⟩ = some (.int .i64 a0_1) := (qai BK113.out 1).trans rfl; have hfz43_0 := qah BK113.out 0; have hfz43_1 := qah BK113.out 1)); try go_wp2_with (first | ((with_reducible refine qas (N := 3) rfl ?_); refine qar ?hg (N := 3) ?hd (cs := #[.int .i64 a0_0, .int .i64 a0_1]) (t := 32) ?hr ?_; (case hd => rfl); (case hg => rfl); (case hr => first | (go_simp; done) | (go_simp; rfl)); intro gb113 hg w40 hbox hb; have n0_ := qab.mk (qak (by repeat (first | (with_reducible first | exact HB.out | apply qad | apply qaa | apply qac) | exact HB.out)) hb); have n1_ := qab.mk (hbox); have n2_ := qab.mk ((by rw [hg]; exact (qal (by repeat (first | (with_reducible first | exact HB.out | apply qad | apply qaa | apply qac) | exact HB.out))) : w.heap.size ≤ gb113)); have n3_ := qab.mk ((by rw [hg]; exact (qal (by repeat (first | (with_reducible first | exact HB.out | apply qad | apply qaa | apply qac) | exact HB.out))) : w.heap.size ≤ gb113)); clear HB; have HB := n0_; have BK113 := n1_; have GW113 := n2_; have GE113 := n3_; clear n0_ n1_ n2_ n3_; clear hb hbox hg; have hcz41_0 : w40.cell? ⟨gb113, 0, none⟩ = some (.int .i64 a0_0) := (qai BK113.out 0).trans rfl; have hcz41_1 : w40.cell? ⟨gb113, 1, none⟩ = some (.int .i64 a0_1) := (qai BK113.out 1).trans rfl; have hfz41_0 := qah BK113.out 0; have hfz41_1 := qah BK113.out 1) | (go_at_call 108; (with_reducible refine (impl_isNode.calls a0_0 a0_1 a1 true _ A4.out).mono ?_); rintro e w42 ⟨rfl, hb⟩; have n0_ := qab.mk (qam (g := gb113) (o := .cells #[.int .i64 a0_0, .int .i64 a0_1] 32 (0, 0)) (by (with_reducible repeat (first | refine qag ?_ _ | refine qaj ?_ | refine qaf ?_ _)); exact BK113.out) hb); have n1_ := qab.mk (qak (by repeat (first | (with_reducible first | exact HB.out | apply qad | apply qaa | apply qac | refine qae ?_ GE113.out) | exact HB.out)) hb); clear BK113; clear HB; have BK113 := n0_; have HB := n1_; clear n0_ n1_; (try clear hb); (try clear hb2); (try clear hk); (try clear hi); have hcz43_0 : w42.cell? ⟨gb113, 0, none⟩ = some (.int .i64 a0_0) := (qai BK113.out 0).trans rfl; have hcz43_1 : w42.cell? ⟨gb113, 1, none⟩ = some (.int .i64 a0_1) := (qai BK113.out 1).trans rfl; have hfz43_0 := qah BK113.out 0; have hfz43_1 := qah BK113.out 1)))
        go_ret
        exact ⟨by first | rfl | (simp [errW_none, errW_some] <;> rfl) | (simp [*, errW_none, errW_some] <;> rfl), by repeat (first | (with_reducible first | exact HB.out | apply qad | apply qaa | apply qac | refine qae ?_ GE113.out) | exact HB.out)⟩
 ·replace c5 := Bool.eq_false_iff.mpr c5
  subst c5
  have H1 := H
  rw [if_neg (show ¬ (false = true) by decide)] at H1
  clear H
  have H := H1
  clear H1
  obtain rfl := Option.some.inj H
  go_enter Try.func62, Try.ntmps62
  go_wp2_with (first | ((with_reducible refine qas (N := 3) rfl ?_); refine qar ?hg (N := 3) ?hd (cs := #[.int .i64 a0_0, .int .i64 a0_1]) (t := 32) ?hr ?_; (case hd => rfl); (case hg => rfl); (case hr => first | (go_simp; done) | (go_simp; rfl)); intro gb113 hg w44 hbox hb; have n0_ := qab.mk (qak (by repeat (first | (with_reducible first | exact HB.out | apply qad | apply qaa | apply qac) | exact HB.out)) hb); have n1_ := qab.mk (hbox); have n2_ := qab.mk ((by rw [hg]; exact (qal (by repeat (first | (with_reducible first | exact HB.out | apply qad | apply qaa | apply qac) | exact HB.out))) : w.heap.size ≤ gb113)); have n3_ := qab.mk ((by rw [hg]; exact (qal (by repeat (first | (with_reducible first | exact HB.out | apply qad | apply qaa | apply qac) | exact HB.out))) : w.heap.size ≤ gb113)); clear HB; have HB := n0_; have BK113 := n1_; have GW113 := n2_; have GE113 := n3_; clear n0_ n1_ n2_ n3_; clear hb hbox hg; have hcz45_0 : w44.cell? ⟨gb113, 0, none⟩ = some (.int .i64 a0_0) := (qai BK113.out 0).trans rfl; have hcz45_1 : w44.cell? ⟨gb113, 1, none⟩ = some (.int .i64 a0_1) := (qai BK113.out 1).trans rfl; have hfz45_0 := qah BK113.out 0; have hfz45_1 := qah BK113.out 1) | (go_at_call 108; (with_reducible refine (impl_isNode.calls a0_0 a0_1 a1 false _ A4.out).mono ?_); rintro e w46 ⟨rfl, hb⟩; have n0_ := qab.mk (qam (g := gb113) (o := .cells #[.int .i64 a0_0, .int .i64 a0_1] 32 (0, 0)) (by (with_reducible repeat (first | refine qag ?_ _ | refine qaj ?_ | refine qaf ?_ _)); exact BK113.out) hb); have n1_ := qab.mk (qak (by repeat (first | (with_reducible first | exact HB.out | apply qad | apply qaa | apply qac | refine qae ?_ GE113.out) | exact HB.out)) hb); clear BK113; clear HB; have BK113 := n0_; have HB := n1_; clear n0_ n1_; (try clear hb); (try clear hb2); (try clear hk); (try clear hi)))
  repeat (go_quiet (first | ((with_reducible refine qas (N := 3) rfl ?_); refine qar ?hg (N := 3) ?hd (cs := #[.int .i64 a0_0, .int .i64 a0_1]) (t := 32) ?hr ?_; (case hd => rfl); (case hg => rfl); (case hr => first | (go_simp; done) | (go_simp; rfl)); intro gb113 hg w44 hbox hb; have n0_ := qab.mk (qak (by repeat (first | (with_reducible first | exact HB.out | apply qad | apply qaa | apply qac) | exact HB.out)) hb); have n1_ := qab.mk (hbox); have n2_ := qab.mk ((by rw [hg]; exact (qal (by repeat (first | (with_reducible first | exact HB.out | apply qad | apply qaa | apply qac) | exact HB.out))) : w.heap.size ≤ gb113)); have n3_ := qab.mk ((by rw [hg]; exact (qal (by repeat (first | (with_reducible first | exact HB.out | apply qad | apply qaa | apply qac) | exact HB.out))) : w.heap.size ≤ gb113)); clear HB; have HB := n0_; have BK113 := n1_; have GW113 := n2_; have GE113 := n3_; clear n0_ n1_ n2_ n3_; clear hb hbox hg; have hcz45_0 : w44.cell? ⟨gb113, 0, none⟩ = some (.int .i64 a0_0) := (qai BK113.out 0).trans rfl; have hcz45_1 : w44.cell? ⟨gb113, 1, none⟩ = some (.int .i64 a0_1) := (qai BK113.out 1).trans rfl; have hfz45_0 := qah BK113.out 0; have hfz45_1 := qah BK113.out 1) | (go_at_call 108; (with_reducible refine (impl_isNode.calls a0_0 a0_1 a1 false _ A4.out).mono ?_); rintro e w46 ⟨rfl, hb⟩; have n0_ := qab.mk (qam (g := gb113) (o := .cells #[.int .i64 a0_0, .int .i64 a0_1] 32 (0, 0)) (by (with_reducible repeat (first | refine qag ?_ _ | refine qaj ?_ | refine qaf ?_ _)); exact BK113.out) hb); have n1_ := qab.mk (qak (by repeat (first | (with_reducible first | exact HB.out | apply qad | apply qaa | apply qac | refine qae ?_ GE113.out) | exact HB.out)) hb); clear BK113; clear HB; have BK113 := n0_; have HB := n1_; clear n0_ n1_; (try clear hb); (try clear hb2); (try clear hk); (try clear hi))); try go_wp2_with (first | ((with_reducible refine qas (N := 3) rfl ?_); refine qar ?hg (N := 3) ?hd (cs := #[.int .i64 a0_0, .int .i64 a0_1]) (t := 32) ?hr ?_; (case hd => rfl); (case hg => rfl); (case hr => first | (go_simp; done) | (go_simp; rfl)); intro gb113 hg w44 hbox hb; have n0_ := qab.mk (qak (by repeat (first | (with_reducible first | exact HB.out | apply qad | apply qaa | apply qac) | exact HB.out)) hb); have n1_ := qab.mk (hbox); have n2_ := qab.mk ((by rw [hg]; exact (qal (by repeat (first | (with_reducible first | exact HB.out | apply qad | apply qaa | apply qac) | exact HB.out))) : w.heap.size ≤ gb113)); have n3_ := qab.mk ((by rw [hg]; exact (qal (by repeat (first | (with_reducible first | exact HB.out | apply qad | apply qaa | apply qac) | exact HB.out))) : w.heap.size ≤ gb113)); clear HB; have HB := n0_; have BK113 := n1_; have GW113 := n2_; have GE113 := n3_; clear n0_ n1_ n2_ n3_; clear hb hbox hg; have hcz45_0 : w44.cell? ⟨gb113, 0, none⟩ = some (.int .i64 a0_0) := (qai BK113.out 0).trans rfl; have hcz45_1 : w44.cell? ⟨gb113, 1, none⟩ = some (.int .i64 a0_1) := (qai BK113.out 1).trans rfl; have hfz45_0 := qah BK113.out 0; have hfz45_1 := qah BK113.out 1) | (go_at_call 108; (with_reducible refine (impl_isNode.calls a0_0 a0_1 a1 false _ A4.out).mono ?_); rintro e w46 ⟨rfl, hb⟩; have n0_ := qab.mk (qam (g := gb113) (o := .cells #[.int .i64 a0_0, .int .i64 a0_1] 32 (0, 0)) (by (with_reducible repeat (first | refine qag ?_ _ | refine qaj ?_ | refine qaf ?_ _)); exact BK113.out) hb); have n1_ := qab.mk (qak (by repeat (first | (with_reducible first | exact HB.out | apply qad | apply qaa | apply qac | refine qae ?_ GE113.out) | exact HB.out)) hb); clear BK113; clear HB; have BK113 := n0_; have HB := n1_; clear n0_ n1_; (try clear hb); (try clear hb2); (try clear hk); (try clear hi))))
  go_ret
  exact ⟨by first | rfl | (simp [errW_none, errW_some] <;> rfl) | (simp [*, errW_none, errW_some] <;> rfl), by repeat (first | (with_reducible first | exact HB.out | apply qad | apply qaa | apply qac | refine qae ?_ GE113.out) | exact HB.out)⟩


/-! ### impl_leads: function 142 -/
def impl_leads.f (a0_0 : Int) (a0_1 : Int) (a1 : Int) : Option (Bool) := (impl_NodeCount.f a0_0 a0_1).bind fun t120 => ((impl_inside.f a1 0 (wrap64 ((wrap64 (4 * t120)) - 1))).bind fun t121 => (if t121 = true then ((impl_NextNode.f a0_0 a0_1 (wrap64 (Int.tdiv a1 4)) (Int.tmod a1 4)).bind fun t122 => (some (decide (t122 ≥ 0)))) else (some false)))
set_option maxHeartbeats 8000000 in
set_option maxRecDepth 100000 in
theorem impl_leads.calls (a0_0 : Int) (a0_1 : Int) (a1 : Int) (r : Bool) (w : World) (h : impl_leads.f a0_0 a0_1 a1 = some r) :
  Calls Try.prog 142 #[.agg #[.int .i64 a0_0, .int .i64 a0_1], .int .i64 a1] w fun e w' => e = .returned (.bool r) ∧ Below w.heap.size w w' := by
 have hu32 := Try.underlying32
 have HB := qab.mk (Below.refl w.heap.size w)
 have H : ((impl_NodeCount.f a0_0 a0_1).bind fun t120 => ((impl_inside.f a1 0 (wrap64 ((wrap64 (4 * t120)) - 1))).bind fun t121 => (if t121 = true then ((impl_NextNode.f a0_0 a0_1 (wrap64 (Int.tdiv a1 4)) (Int.tmod a1 4)).bind fun t122 => (some (decide (t122 ≥ 0)))) else (some false)))) = some r := h
 clear h
 replace H := Option.bind_eq_some_iff.mp H
 obtain ⟨t120, A30, H⟩ := H
 try dsimp only at H
 have A3 := qab.mk A30
 clear A30
 replace H := Option.bind_eq_some_iff.mp H
 obtain ⟨t121, A40, H⟩ := H
 try dsimp only at H
 have A4 := qab.mk A40
 clear A40
 by_cases c5 : t121 = true
 ·subst c5
  have H1 := H
  rw [if_pos rfl] at H1
  clear H
  have H := H1
  clear H1
  replace H := Option.bind_eq_some_iff.mp H
  obtain ⟨t122, A60, H⟩ := H
  try dsimp only at H
  have A6 := qab.mk A60
  clear A60
  obtain rfl := Option.some.inj H
  go_enter Try.func142, Try.ntmps142
  go_wp2_with (first | ((with_reducible refine qas (N := 2) rfl ?_); refine qar ?hg (N := 2) ?hd (cs := #[.int .i64 a0_0, .int .i64 a0_1]) (t := 32) ?hr ?_; (case hd => rfl); (case hg => rfl); (case hr => first | (go_simp; done) | (go_simp; rfl)); intro gb119 hg w7 hbox hb; have n0_ := qab.mk (qak (by repeat (first | (with_reducible first | exact HB.out | apply qad | apply qaa | apply qac) | exact HB.out)) hb); have n1_ := qab.mk (hbox); have n2_ := qab.mk ((by rw [hg]; exact (qal (by repeat (first | (with_reducible first | exact HB.out | apply qad | apply qaa | apply qac) | exact HB.out))) : w.heap.size ≤ gb119)); have n3_ := qab.mk ((by rw [hg]; exact (qal (by repeat (first | (with_reducible first | exact HB.out | apply qad | apply qaa | apply qac) | exact HB.out))) : w.heap.size ≤ gb119)); clear HB; have HB := n0_; have BK119 := n1_; have GW119 := n2_; have GE119 := n3_; clear n0_ n1_ n2_ n3_; clear hb hbox hg; have hcz8_0 : w7.cell? ⟨gb119, 0, none⟩ = some (.int .i64 a0_0) := (qai BK119.out 0).trans rfl; have hcz8_1 : w7.cell? ⟨gb119, 1, none⟩ = some (.int .i64 a0_1) := (qai BK119.out 1).trans rfl; have hfz8_0 := qah BK119.out 0; have hfz8_1 := qah BK119.out 1) | ((with_reducible refine qaq (f := 99) rfl ?_); refine qbe (some 7) rfl rfl Try.func99 (by kernel_rfl) rfl #[.agg #[.int .i64 a0_0, .int .i64 a0_1]] rfl (by (try simp only [List.map_toArray, List.map_cons, List.map_nil]); first | done | rfl | (simp only [List.length_drop, List.length_take]; rfl)) ?_; (with_reducible refine (impl_NodeCount.calls a0_0 a0_1 t120 _ A3.out).mono ?_); rintro e w9 ⟨rfl, hb⟩; refine ⟨_, rfl, ?_⟩; have n0_ := qab.mk (qam (g := gb119) (o := .cells #[.int .i64 a0_0, .int .i64 a0_1] 32 (0, 0)) (by (with_reducible repeat (first | refine qag ?_ _ | refine qaj ?_ | refine qaf ?_ _)); exact BK119.out) hb); have n1_ := qab.mk (qak (by repeat (first | (with_reducible first | exact HB.out | apply qad | apply qaa | apply qac | refine qae ?_ GE119.out) | exact HB.out)) hb); clear BK119; clear HB; have BK119 := n0_; have HB := n1_; clear n0_ n1_; (try clear hb); (try clear hb2); (try clear hk); (try clear hi)) | ((with_reducible refine qaq (f := 98) rfl ?_); refine qbe (some 10) rfl rfl Try.func98 (by kernel_rfl) rfl #[.int .i64 a1, .int .i64 0, .int .i64 (wrap64 ((wrap64 (4 * t120)) - 1))] rfl (by (try simp only [List.map_toArray, List.map_cons, List.map_nil]); first | done | rfl | (simp only [List.length_drop, List.length_take]; rfl)) ?_; (with_reducible refine (impl_inside.calls a1 0 (wrap64 ((wrap64 (4 * t120)) - 1)) true _ A4.out).mono ?_); rintro e w' ⟨rfl, ⟨nd, rfl⟩⟩; refine ⟨_, rfl, ?_⟩; have hcz10_0 : w9.cell? ⟨gb119, 0, none⟩ = some (.int .i64 a0_0) := (qai BK119.out 0).trans rfl; have hcz10_1 : w9.cell? ⟨gb119, 1, none⟩ = some (.int .i64 a0_1) := (qai BK119.out 1).trans rfl; have hfz10_0 := qah BK119.out 0; have hfz10_1 := qah BK119.out 1) | (go_at_call 62; (with_reducible refine (impl_NextNode.calls a0_0 a0_1 (wrap64 (Int.tdiv a1 4)) (Int.tmod a1 4) t122 _ A6.out).mono ?_); rintro e w11 ⟨rfl, hb⟩; have n0_ := qab.mk (qam (g := gb119) (o := .cells #[.int .i64 a0_0, .int .i64 a0_1] 32 (0, 0)) (by (with_reducible repeat (first | refine qag ?_ _ | refine qaj ?_ | refine qaf ?_ _)); exact BK119.out) hb); have n1_ := qab.mk (qak (by repeat (first | (with_reducible first | exact HB.out | apply qad | apply qaa | apply qac | refine qae ?_ GE119.out) | exact HB.out)) hb); clear BK119; clear HB; have BK119 := n0_; have HB := n1_; clear n0_ n1_; (try clear hb); (try clear hb2); (try clear hk); (try clear hi)))
  go_ret
  exact ⟨by first | rfl | (simp [errW_none, errW_some] <;> rfl) | (simp [*, errW_none, errW_some] <;> rfl), by repeat (first | (with_reducible first | exact HB.out | apply qad | apply qaa | apply qac | refine qae ?_ GE119.out) | exact HB.out)⟩
 ·replace c5 := Bool.eq_false_iff.mpr c5
  subst c5
  have H1 := H
  rw [if_neg (show ¬ (false = true) by decide)] at H1
  clear H
  have H := H1
  clear H1
  obtain rfl := Option.some.inj H
  go_enter Try.func142, Try.ntmps142
  go_wp2_with (first | ((with_reducible refine qas (N := 2) rfl ?_); refine qar ?hg (N := 2) ?hd (cs := #[.int .i64 a0_0, .int .i64 a0_1]) (t := 32) ?hr ?_; (case hd => rfl); (case hg => rfl); (case hr => first | (go_simp; done) | (go_simp; rfl)); intro gb119 hg w12 hbox hb; have n0_ := qab.mk (qak (by repeat (first | (with_reducible first | exact HB.out | apply qad | apply qaa | apply qac) | exact HB.out)) hb); have n1_ := qab.mk (hbox); have n2_ := qab.mk ((by rw [hg]; exact (qal (by repeat (first | (with_reducible first | exact HB.out | apply qad | apply qaa | apply qac) | exact HB.out))) : w.heap.size ≤ gb119)); have n3_ := qab.mk ((by rw [hg]; exact (qal (by repeat (first | (with_reducible first | exact HB.out | apply qad | apply qaa | apply qac) | exact HB.out))) : w.heap.size ≤ gb119)); clear HB; have HB := n0_; have BK119 := n1_; have GW119 := n2_; have GE119 := n3_; clear n0_ n1_ n2_ n3_; clear hb hbox hg; have hcz13_0 : w12.cell? ⟨gb119, 0, none⟩ = some (.int .i64 a0_0) := (qai BK119.out 0).trans rfl; have hcz13_1 : w12.cell? ⟨gb119, 1, none⟩ = some (.int .i64 a0_1) := (qai BK119.out 1).trans rfl; have hfz13_0 := qah BK119.out 0; have hfz13_1 := qah BK119.out 1) | ((with_reducible refine qaq (f := 99) rfl ?_); refine qbe (some 7) rfl rfl Try.func99 (by kernel_rfl) rfl #[.agg #[.int .i64 a0_0, .int .i64 a0_1]] rfl (by (try simp only [List.map_toArray, List.map_cons, List.map_nil]); first | done | rfl | (simp only [List.length_drop, List.length_take]; rfl)) ?_; (with_reducible refine (impl_NodeCount.calls a0_0 a0_1 t120 _ A3.out).mono ?_); rintro e w14 ⟨rfl, hb⟩; refine ⟨_, rfl, ?_⟩; have n0_ := qab.mk (qam (g := gb119) (o := .cells #[.int .i64 a0_0, .int .i64 a0_1] 32 (0, 0)) (by (with_reducible repeat (first | refine qag ?_ _ | refine qaj ?_ | refine qaf ?_ _)); exact BK119.out) hb); have n1_ := qab.mk (qak (by repeat (first | (with_reducible first | exact HB.out | apply qad | apply qaa | apply qac | refine qae ?_ GE119.out) | exact HB.out)) hb); clear BK119; clear HB; have BK119 := n0_; have HB := n1_; clear n0_ n1_; (try clear hb); (try clear hb2); (try clear hk); (try clear hi)) | ((with_reducible refine qaq (f := 98) rfl ?_); refine qbe (some 10) rfl rfl Try.func98 (by kernel_rfl) rfl #[.int .i64 a1, .int .i64 0, .int .i64 (wrap64 ((wrap64 (4 * t120)) - 1))] rfl (by (try simp only [List.map_toArray, List.map_cons, List.map_nil]); first | done | rfl | (simp only [List.length_drop, List.length_take]; rfl)) ?_; (with_reducible refine (impl_inside.calls a1 0 (wrap64 ((wrap64 (4 * t120)) - 1)) false _ A4.out).mono ?_); rintro e w' ⟨rfl, ⟨nd, rfl⟩⟩; refine ⟨_, rfl, ?_⟩))
  go_ret
  exact ⟨by first | rfl | (simp [errW_none, errW_some] <;> rfl) | (simp [*, errW_none, errW_some] <;> rfl), by repeat (first | (with_reducible first | exact HB.out | apply qad | apply qaa | apply qac | refine qae ?_ GE119.out) | exact HB.out)⟩


/-! ### impl_MeshOk: function 101 -/
def impl_MeshOk.l0 : Nat → List Int → Int → Int → Int → Int → List Int → Option (Bool)
 | 0, _, _, _, _, _, _ => none
 | k + 1, x6, x7, x8, x124000, x124001, x124002 => if x8 < x7 then (if 0 ≤ x8 then (if x8 < (x6.length : Int) then ((impl_leads.f x124000 x124001 (rd x6 x8)).bind fun t125 => (if t125 = true then (if x8 > 0 then (if 0 ≤ (wrap64 (x8 - 1)) then (if (wrap64 (x8 - 1)) < (x124002.length : Int) then (if (rd x124002 (wrap64 (x8 - 1))) ≥ (rd x6 x8) then (some false) else (impl_MeshOk.l0 k x6 x7 (wrap64 (x8 + 1)) x124000 x124001 x124002)) else (none)) else (none)) else (impl_MeshOk.l0 k x6 x7 (wrap64 (x8 + 1)) x124000 x124001 x124002)) else (some false))) else (none)) else (none)) else ((impl_GridOk.f x124000 x124001).bind fun t127 => (some t127))
def impl_MeshOk.f (k : Nat) (a0_0 : Int) (a0_1 : Int) (l0_2 : List Int) : Option (Bool) := impl_MeshOk.l0 k l0_2 (l0_2.length : Int) 0 a0_0 a0_1 l0_2
theorem impl_MeshOk.mono_l : ∀ k, (∀ y0 y1 y2 y3 y4 y5, LeO (impl_MeshOk.l0 k y0 y1 y2 y3 y4 y5) (impl_MeshOk.l0 (k + 1) y0 y1 y2 y3 y4 y5))
 | 0 => fun _ _ _ _ _ _ r h => by simp [impl_MeshOk.l0] at h
 | k + 1 => by
  have ih0 := impl_MeshOk.mono_l k
  ·intro y0 y1 y2 y3 y4 y5
   unfold impl_MeshOk.l0
   repeat' first
   | (with_reducible exact ih0 _ _ _ _ _ _)
   | (with_reducible exact LeO.refl _)
   | (with_reducible exact LeO.none _)
   | (with_reducible refine LeO.ite ?_ ?_)
   | (with_reducible refine LeO.bind ?_ (fun _ => ?_))
   | exact ih0 _ _ _ _ _ _
   | exact LeO.none _
   | refine LeO.ite ?_ ?_
   | refine LeO.bind ?_ (fun _ => ?_)
theorem impl_MeshOk.mono : ∀ a0 a1 a2 k, LeO (impl_MeshOk.f k a0 a1 a2) (impl_MeshOk.f (k + 1) a0 a1 a2) := by
 intro a0 a1 a2 k
 have ih0 := impl_MeshOk.mono_l k
 unfold impl_MeshOk.f
 repeat' first
   | (with_reducible exact ih0 _ _ _ _ _ _)
   | (with_reducible exact LeO.refl _)
   | (with_reducible exact LeO.none _)
   | (with_reducible refine LeO.ite ?_ ?_)
   | (with_reducible refine LeO.bind ?_ (fun _ => ?_))
   | exact ih0 _ _ _ _ _ _
   | exact LeO.none _
   | refine LeO.ite ?_ ?_
   | refine LeO.bind ?_ (fun _ => ?_)
set_option maxHeartbeats 8000000 in
set_option maxRecDepth 100000 in
theorem impl_MeshOk.calls (k : Nat) (a0_0 : Int) (a0_1 : Int) (A0_2 : Option Addr) (c0_2 : Nat) (l0_2 : List Int) (r : Bool) (w : World) (hr0_2 : Kd.C (Kd.int .i64) w A0_2 l0_2.length l0_2) (hc0_2 : l0_2.length ≤ c0_2) (h : impl_MeshOk.f k a0_0 a0_1 l0_2 = some r) :
  Calls Try.prog 101 #[.agg #[.int .i64 a0_0, .int .i64 a0_1, .slice A0_2 l0_2.length c0_2]] w fun e w' => e = .returned (.bool r) ∧ Below w.heap.size w w' := by
 have hu34 := Try.underlying34
 have hu32 := Try.underlying32
 have HR0_2 := qab.mk hr0_2
 have HC0_2 := qab.mk hc0_2
 clear hr0_2 hc0_2
 have HB := qab.mk (Below.refl w.heap.size w)
 have H : (impl_MeshOk.l0 k l0_2 (l0_2.length : Int) 0 a0_0 a0_1 l0_2) = some r := h
 clear h
 have H' := qab.mk H
 clear H
 go_enter Try.func101, Try.ntmps101
 go_wp2_with (first | ((with_reducible refine qas (N := 1) rfl ?_); refine qar ?hg (N := 1) ?hd (cs := #[.int .i64 a0_0, .int .i64 a0_1, .slice A0_2 l0_2.length c0_2]) (t := 34) ?hr ?_; (case hd => rfl); (case hg => rfl); (case hr => first | (go_simp; done) | (go_simp; rfl)); intro gb123 hg w2 hbox hb; have n0_ := qab.mk (qak (by repeat (first | (with_reducible first | exact HB.out | apply qad | apply qaa | apply qac) | exact HB.out)) hb); have n1_ := qab.mk (hbox); have n2_ := qab.mk ((by rw [hg]; exact (qal (by repeat (first | (with_reducible first | exact HB.out | apply qad | apply qaa | apply qac) | exact HB.out))) : w.heap.size ≤ gb123)); have n3_ := qab.mk ((by rw [hg]; exact (qal (by repeat (first | (with_reducible first | exact HB.out | apply qad | apply qaa | apply qac) | exact HB.out))) : w.heap.size ≤ gb123)); clear HB; have HB := n0_; have BK123 := n1_; have GW123 := n2_; have GE123 := n3_; clear n0_ n1_ n2_ n3_; clear hb hbox hg; have hcz3_0 : w2.cell? ⟨gb123, 0, none⟩ = some (.int .i64 a0_0) := (qai BK123.out 0).trans rfl; have hcz3_1 : w2.cell? ⟨gb123, 1, none⟩ = some (.int .i64 a0_1) := (qai BK123.out 1).trans rfl; have hcz3_2 : w2.cell? ⟨gb123, 2, none⟩ = some (.slice A0_2 l0_2.length c0_2) := (qai BK123.out 2).trans rfl; have hfz3_0 := qah BK123.out 0; have hfz3_1 := qah BK123.out 1; have hfz3_2 := qah BK123.out 2))
 go_loopg [8] k (fun kq v8 w' => ∃ (x8_1 : Int), v8 = .int .i64 x8_1 ∧ qab (impl_MeshOk.l0 kq l0_2 (l0_2.length : Int) x8_1 a0_0 a0_1 l0_2 = some r) ∧ qab (kq ≤ k) ∧ qab (w'.heap[gb123]? = some (.cells #[.int .i64 a0_0, .int .i64 a0_1, (.slice A0_2 l0_2.length c0_2)] 34 (0, 0))) ∧ qab (Below w.heap.size w w'))
 case atStart => exact ⟨(0), (by first | rfl | (simp; done) | (simp [*]; done)), H', ⟨Nat.le_refl _⟩, ⟨by (with_reducible repeat (first | refine qag ?_ _ | refine qaj ?_ | refine qaf ?_ _)); exact BK123.out⟩, ⟨by repeat (first | (with_reducible first | exact HB.out | apply qad | apply qaa | apply qac | refine qae ?_ GE123.out) | exact HB.out)⟩⟩
 case round =>
  clear H'
  try clear c1
  try clear p2
  try clear hcz3_0
  try clear hcz3_1
  try clear hcz3_2
  try clear hfz3_0
  try clear hfz3_1
  try clear hfz3_2
  obtain ⟨x8_1, rfl, HA, HK1, BK123, HB⟩ := hrel
  cases gk with
  | zero => exact absurd HA.out (by simp [impl_MeshOk.l0])
  | succ k1 =>
   have H := HA.out
   clear HA
   simp only [impl_MeshOk.l0] at H
   by_cases c4 : x8_1 < (l0_2.length : Int)
   ·rw [if_pos c4] at H
    have c4b0 : decide (x8_1 < (l0_2.length : Int)) = true := decide_eq_true c4
    clear c4
    by_cases c5 : 0 ≤ x8_1
    ·rw [if_pos c5] at H
     have c5b0 : decide (0 ≤ x8_1) = true := decide_eq_true c5
     clear c5
     by_cases c6 : x8_1 < (l0_2.length : Int)
     ·rw [if_pos c6] at H
      have c6b0 : decide (x8_1 < (l0_2.length : Int)) = true := decide_eq_true c6
      clear c6
      replace H := Option.bind_eq_some_iff.mp H
      obtain ⟨t125, A70, H⟩ := H
      try dsimp only at H
      have A7 := qab.mk A70
      clear A70
      by_cases c8 : t125 = true
      ·subst c8
       have H1 := H
       rw [if_pos rfl] at H1
       clear H
       have H := H1
       clear H1
       by_cases c9 : x8_1 > 0
       ·rw [if_pos c9] at H
        have c9b0 : decide (0 < x8_1) = true := decide_eq_true c9
        clear c9
        obtain ⟨ji10, hji10⟩ : ∃ j_ : Int, (wrap64 (x8_1 - 1)) = j_ := ⟨_, rfl⟩
        replace H : (if 0 ≤ (ji10) then (if (ji10) < (l0_2.length : Int) then (if (rd l0_2 (ji10)) ≥ (rd l0_2 x8_1) then (some false) else (impl_MeshOk.l0 k1 l0_2 (l0_2.length : Int) (wrap64 (x8_1 + 1)) a0_0 a0_1 l0_2)) else (none)) else (none)) = some r := by first | (rw [hji10] at H; exact H) | (simp only [hji10] at H ⊢; exact H)
        (try rw [hji10] at A7)
        have hji10w : (IntKind.i64.wrap (x8_1 - 1)) = ji10 := (i64_w _).trans hji10
        by_cases c11 : 0 ≤ (ji10)
        ·rw [if_pos c11] at H
         have c11b0 : decide (0 ≤ (ji10)) = true := decide_eq_true c11
         clear c11
         by_cases c12 : (ji10) < (l0_2.length : Int)
         ·rw [if_pos c12] at H
          have c12b0 : decide ((ji10) < (l0_2.length : Int)) = true := decide_eq_true c12
          clear c12
          by_cases c13 : (rd l0_2 (ji10)) ≥ (rd l0_2 x8_1)
          ·rw [if_pos c13] at H
           have c13b0 : decide ((rd l0_2 x8_1) ≤ (rd l0_2 (ji10))) = true := decide_eq_true c13
           clear c13
           obtain rfl := Option.some.inj H
           have p124 : 0 ≤ (x8_1 : Int) := of_decide_eq_true (by first | (with_reducible assumption) | assumption)
           have q124 : x8_1 < (l0_2.length : Int) := of_decide_eq_true (by first | (with_reducible assumption) | assumption)
           obtain ⟨ad124, e124, hx124_0⟩ := Kd.qcc HR0_2.out x8_1 p124 q124
           cases e124
           replace hx124_0 := (HB.out.cell (World.block_lt_of_cell? w _ hx124_0)).trans hx124_0
           replace p124 := eq_true p124
           replace q124 := eq_true q124
           have hcz14_0 : wr.cell? ⟨gb123, 0, none⟩ = some (.int .i64 a0_0) := (qai BK123.out 0).trans rfl
           have hcz14_1 : wr.cell? ⟨gb123, 1, none⟩ = some (.int .i64 a0_1) := (qai BK123.out 1).trans rfl
           have hcz14_2 : wr.cell? ⟨gb123, 2, none⟩ = some (.slice (some ad124) l0_2.length c0_2) := (qai BK123.out 2).trans rfl
           have hfz14_0 := qah BK123.out 0
           have hfz14_1 := qah BK123.out 1
           have hfz14_2 := qah BK123.out 2
           go_wp2_with (first | ((with_reducible refine qaq (f := 142) rfl ?_); refine qbe (some 16) rfl rfl Try.func142 (by kernel_rfl) rfl #[.agg #[.int .i64 a0_0, .int .i64 a0_1], .int .i64 (rd l0_2 x8_1)] rfl (by (try simp only [List.map_toArray, List.map_cons, List.map_nil]); first | done | rfl | (simp only [List.length_drop, List.length_take]; rfl)) ?_; (with_reducible refine (impl_leads.calls a0_0 a0_1 (rd l0_2 x8_1) true _ A7.out).mono ?_); rintro e w15 ⟨rfl, hb⟩; refine ⟨_, rfl, ?_⟩; have n0_ := qab.mk (qam (g := gb123) (o := .cells #[.int .i64 a0_0, .int .i64 a0_1, .slice (some ad124) l0_2.length c0_2] 34 (0, 0)) (by (with_reducible repeat (first | refine qag ?_ _ | refine qaj ?_ | refine qaf ?_ _)); exact BK123.out) hb); have n1_ := qab.mk (qak (by repeat (first | (with_reducible first | exact HB.out | apply qad | apply qaa | apply qac | refine qae ?_ GE123.out) | exact HB.out)) hb); clear BK123; clear HB; have BK123 := n0_; have HB := n1_; clear n0_ n1_; (try clear hb); (try clear hb2); (try clear hk); (try clear hi); have hcz16_0 : w15.cell? ⟨gb123, 0, none⟩ = some (.int .i64 a0_0) := (qai BK123.out 0).trans rfl; have hcz16_1 : w15.cell? ⟨gb123, 1, none⟩ = some (.int .i64 a0_1) := (qai BK123.out 1).trans rfl; have hcz16_2 : w15.cell? ⟨gb123, 2, none⟩ = some (.slice (some ad124) l0_2.length c0_2) := (qai BK123.out 2).trans rfl; have hfz16_0 := qah BK123.out 0; have hfz16_1 := qah BK123.out 1; have hfz16_2 := qah BK123.out 2; have p126 : 0 ≤ ((ji10) : Int) := of_decide_eq_true (by first | (with_reducible assumption) | assumption); have q126 : (ji10) < (l0_2.length : Int) := of_decide_eq_true (by first | (with_reducible assumption) | assumption); obtain ⟨ad126, e126, hx126_0⟩ := Kd.qcc HR0_2.out (ji10) p126 q126; obtain rfl : ad124 = ad126 := (by injection e126); replace hx126_0 := (HB.out.cell (World.block_lt_of_cell? w _ hx126_0)).trans hx126_0; replace p126 := eq_true p126; replace q126 := eq_true q126))
           go_ret
           exact ⟨by first | rfl | (simp [errW_none, errW_some] <;> rfl) | (simp only [← hji10]; first | rfl | (simp [errW_none, errW_some] <;> rfl)) | (simp [*, errW_none, errW_some] <;> rfl), by repeat (first | (with_reducible first | exact HB.out | apply qad | apply qaa | apply qac | refine qae ?_ GE123.out) | exact HB.out)⟩
          ·rw [if_neg c13] at H
           have c13b0 : decide ((rd l0_2 x8_1) ≤ (rd l0_2 (ji10))) = false := decide_eq_false c13
           clear c13
           have H' := qab.mk H
           clear H
           have p124 : 0 ≤ (x8_1 : Int) := of_decide_eq_true (by first | (with_reducible assumption) | assumption)
           have q124 : x8_1 < (l0_2.length : Int) := of_decide_eq_true (by first | (with_reducible assumption) | assumption)
           obtain ⟨ad124, e124, hx124_0⟩ := Kd.qcc HR0_2.out x8_1 p124 q124
           cases e124
           replace hx124_0 := (HB.out.cell (World.block_lt_of_cell? w _ hx124_0)).trans hx124_0
           replace p124 := eq_true p124
           replace q124 := eq_true q124
           have hcz17_0 : wr.cell? ⟨gb123, 0, none⟩ = some (.int .i64 a0_0) := (qai BK123.out 0).trans rfl
           have hcz17_1 : wr.cell? ⟨gb123, 1, none⟩ = some (.int .i64 a0_1) := (qai BK123.out 1).trans rfl
           have hcz17_2 : wr.cell? ⟨gb123, 2, none⟩ = some (.slice (some ad124) l0_2.length c0_2) := (qai BK123.out 2).trans rfl
           have hfz17_0 := qah BK123.out 0
           have hfz17_1 := qah BK123.out 1
           have hfz17_2 := qah BK123.out 2
           go_wp2_with (first | ((with_reducible refine qaq (f := 142) rfl ?_); refine qbe (some 16) rfl rfl Try.func142 (by kernel_rfl) rfl #[.agg #[.int .i64 a0_0, .int .i64 a0_1], .int .i64 (rd l0_2 x8_1)] rfl (by (try simp only [List.map_toArray, List.map_cons, List.map_nil]); first | done | rfl | (simp only [List.length_drop, List.length_take]; rfl)) ?_; (with_reducible refine (impl_leads.calls a0_0 a0_1 (rd l0_2 x8_1) true _ A7.out).mono ?_); rintro e w18 ⟨rfl, hb⟩; refine ⟨_, rfl, ?_⟩; have n0_ := qab.mk (qam (g := gb123) (o := .cells #[.int .i64 a0_0, .int .i64 a0_1, .slice (some ad124) l0_2.length c0_2] 34 (0, 0)) (by (with_reducible repeat (first | refine qag ?_ _ | refine qaj ?_ | refine qaf ?_ _)); exact BK123.out) hb); have n1_ := qab.mk (qak (by repeat (first | (with_reducible first | exact HB.out | apply qad | apply qaa | apply qac | refine qae ?_ GE123.out) | exact HB.out)) hb); clear BK123; clear HB; have BK123 := n0_; have HB := n1_; clear n0_ n1_; (try clear hb); (try clear hb2); (try clear hk); (try clear hi); have hcz19_0 : w18.cell? ⟨gb123, 0, none⟩ = some (.int .i64 a0_0) := (qai BK123.out 0).trans rfl; have hcz19_1 : w18.cell? ⟨gb123, 1, none⟩ = some (.int .i64 a0_1) := (qai BK123.out 1).trans rfl; have hcz19_2 : w18.cell? ⟨gb123, 2, none⟩ = some (.slice (some ad124) l0_2.length c0_2) := (qai BK123.out 2).trans rfl; have hfz19_0 := qah BK123.out 0; have hfz19_1 := qah BK123.out 1; have hfz19_2 := qah BK123.out 2; have p126 : 0 ≤ ((ji10) : Int) := of_decide_eq_true (by first | (with_reducible assumption) | assumption); have q126 : (ji10) < (l0_2.length : Int) := of_decide_eq_true (by first | (with_reducible assumption) | assumption); obtain ⟨ad126, e126, hx126_0⟩ := Kd.qcc HR0_2.out (ji10) p126 q126; obtain rfl : ad124 = ad126 := (by injection e126); replace hx126_0 := (HB.out.cell (World.block_lt_of_cell? w _ hx126_0)).trans hx126_0; replace p126 := eq_true p126; replace q126 := eq_true q126))
           go_roundg k1
           case measure => have := HK1.out; omega
           case rel => exact ⟨(wrap64 (x8_1 + 1)), (by first | rfl | (simp; done) | (simp [*]; done)), H', ⟨by have := HK1.out; omega⟩, ⟨by (with_reducible repeat (first | refine qag ?_ _ | refine qaj ?_ | refine qaf ?_ _)); exact BK123.out⟩, ⟨by repeat (first | (with_reducible first | exact HB.out | apply qad | apply qaa | apply qac | refine qae ?_ GE123.out) | exact HB.out)⟩⟩
         ·rw [if_neg c12] at H
          exact absurd H (by simp)
        ·rw [if_neg c11] at H
         exact absurd H (by simp)
       ·rw [if_neg c9] at H
        have c9b0 : decide (0 < x8_1) = false := decide_eq_false c9
        clear c9
        have H' := qab.mk H
        clear H
        have p124 : 0 ≤ (x8_1 : Int) := of_decide_eq_true (by first | (with_reducible assumption) | assumption)
        have q124 : x8_1 < (l0_2.length : Int) := of_decide_eq_true (by first | (with_reducible assumption) | assumption)
        obtain ⟨ad124, e124, hx124_0⟩ := Kd.qcc HR0_2.out x8_1 p124 q124
        cases e124
        replace hx124_0 := (HB.out.cell (World.block_lt_of_cell? w _ hx124_0)).trans hx124_0
        replace p124 := eq_true p124
        replace q124 := eq_true q124
        have hcz20_0 : wr.cell? ⟨gb123, 0, none⟩ = some (.int .i64 a0_0) := (qai BK123.out 0).trans rfl
        have hcz20_1 : wr.cell? ⟨gb123, 1, none⟩ = some (.int .i64 a0_1) := (qai BK123.out 1).trans rfl
        have hcz20_2 : wr.cell? ⟨gb123, 2, none⟩ = some (.slice (some ad124) l0_2.length c0_2) := (qai BK123.out 2).trans rfl
        have hfz20_0 := qah BK123.out 0
        have hfz20_1 := qah BK123.out 1
        have hfz20_2 := qah BK123.out 2
        go_wp2_with (first | ((with_reducible refine qaq (f := 142) rfl ?_); refine qbe (some 16) rfl rfl Try.func142 (by kernel_rfl) rfl #[.agg #[.int .i64 a0_0, .int .i64 a0_1], .int .i64 (rd l0_2 x8_1)] rfl (by (try simp only [List.map_toArray, List.map_cons, List.map_nil]); first | done | rfl | (simp only [List.length_drop, List.length_take]; rfl)) ?_; (with_reducible refine (impl_leads.calls a0_0 a0_1 (rd l0_2 x8_1) true _ A7.out).mono ?_); rintro e w21 ⟨rfl, hb⟩; refine ⟨_, rfl, ?_⟩; have n0_ := qab.mk (qam (g := gb123) (o := .cells #[.int .i64 a0_0, .int .i64 a0_1, .slice (some ad124) l0_2.length c0_2] 34 (0, 0)) (by (with_reducible repeat (first | refine qag ?_ _ | refine qaj ?_ | refine qaf ?_ _)); exact BK123.out) hb); have n1_ := qab.mk (qak (by repeat (first | (with_reducible first | exact HB.out | apply qad | apply qaa | apply qac | refine qae ?_ GE123.out) | exact HB.out)) hb); clear BK123; clear HB; have BK123 := n0_; have HB := n1_; clear n0_ n1_; (try clear hb); (try clear hb2); (try clear hk); (try clear hi)))
        go_roundg k1
        case measure => have := HK1.out; omega
        case rel => exact ⟨(wrap64 (x8_1 + 1)), (by first | rfl | (simp; done) | (simp [*]; done)), H', ⟨by have := HK1.out; omega⟩, ⟨by (with_reducible repeat (first | refine qag ?_ _ | refine qaj ?_ | refine qaf ?_ _)); exact BK123.out⟩, ⟨by repeat (first | (with_reducible first | exact HB.out | apply qad | apply qaa | apply qac | refine qae ?_ GE123.out) | exact HB.out)⟩⟩
      ·replace c8 := Bool.eq_false_iff.mpr c8
       subst c8
       have H1 := H
       rw [if_neg (show ¬ (false = true) by decide)] at H1
       clear H
       have H := H1
       clear H1
       obtain rfl := Option.some.inj H
       have p124 : 0 ≤ (x8_1 : Int) := of_decide_eq_true (by first | (with_reducible assumption) | assumption)
       have q124 : x8_1 < (l0_2.length : Int) := of_decide_eq_true (by first | (with_reducible assumption) | assumption)
       obtain ⟨ad124, e124, hx124_0⟩ := Kd.qcc HR0_2.out x8_1 p124 q124
       cases e124
       replace hx124_0 := (HB.out.cell (World.block_lt_of_cell? w _ hx124_0)).trans hx124_0
       replace p124 := eq_true p124
       replace q124 := eq_true q124
       have hcz22_0 : wr.cell? ⟨gb123, 0, none⟩ = some (.int .i64 a0_0) := (qai BK123.out 0).trans rfl
       have hcz22_1 : wr.cell? ⟨gb123, 1, none⟩ = some (.int .i64 a0_1) := (qai BK123.out 1).trans rfl
       have hcz22_2 : wr.cell? ⟨gb123, 2, none⟩ = some (.slice (some ad124) l0_2.length c0_2) := (qai BK123.out 2).trans rfl
       have hfz22_0 := qah BK123.out 0
       have hfz22_1 := qah BK123.out 1
       have hfz22_2 := qah BK123.out 2
       go_wp2_with (first | ((with_reducible refine qaq (f := 142) rfl ?_); refine qbe (some 16) rfl rfl Try.func142 (by kernel_rfl) rfl #[.agg #[.int .i64 a0_0, .int .i64 a0_1], .int .i64 (rd l0_2 x8_1)] rfl (by (try simp only [List.map_toArray, List.map_cons, List.map_nil]); first | done | rfl | (simp only [List.length_drop, List.length_take]; rfl)) ?_; (with_reducible refine (impl_leads.calls a0_0 a0_1 (rd l0_2 x8_1) false _ A7.out).mono ?_); rintro e w23 ⟨rfl, hb⟩; refine ⟨_, rfl, ?_⟩; have n0_ := qab.mk (qam (g := gb123) (o := .cells #[.int .i64 a0_0, .int .i64 a0_1, .slice (some ad124) l0_2.length c0_2] 34 (0, 0)) (by (with_reducible repeat (first | refine qag ?_ _ | refine qaj ?_ | refine qaf ?_ _)); exact BK123.out) hb); have n1_ := qab.mk (qak (by repeat (first | (with_reducible first | exact HB.out | apply qad | apply qaa | apply qac | refine qae ?_ GE123.out) | exact HB.out)) hb); clear BK123; clear HB; have BK123 := n0_; have HB := n1_; clear n0_ n1_; (try clear hb); (try clear hb2); (try clear hk); (try clear hi)))
       go_ret
       exact ⟨by first | rfl | (simp [errW_none, errW_some] <;> rfl) | (simp [*, errW_none, errW_some] <;> rfl), by repeat (first | (with_reducible first | exact HB.out | apply qad | apply qaa | apply qac | refine qae ?_ GE123.out) | exact HB.out)⟩
     ·rw [if_neg c6] at H
      exact absurd H (by simp)
    ·rw [if_neg c5] at H
     exact absurd H (by simp)
   ·rw [if_neg c4] at H
    have c4b0 : decide (x8_1 < (l0_2.length : Int)) = false := decide_eq_false c4
    clear c4
    replace H := Option.bind_eq_some_iff.mp H
    obtain ⟨t127, A240, H⟩ := H
    try dsimp only at H
    have A24 := qab.mk A240
    clear A240
    obtain rfl := Option.some.inj H
    have hcz25_0 : wr.cell? ⟨gb123, 0, none⟩ = some (.int .i64 a0_0) := (qai BK123.out 0).trans rfl
    have hcz25_1 : wr.cell? ⟨gb123, 1, none⟩ = some (.int .i64 a0_1) := (qai BK123.out 1).trans rfl
    have hcz25_2 : wr.cell? ⟨gb123, 2, none⟩ = some (.slice A0_2 l0_2.length c0_2) := (qai BK123.out 2).trans rfl
    have hfz25_0 := qah BK123.out 0
    have hfz25_1 := qah BK123.out 1
    have hfz25_2 := qah BK123.out 2
    go_wp2_with (first | ((with_reducible refine qaq (f := 97) rfl ?_); refine qbe (some 35) rfl rfl Try.func97 (by kernel_rfl) rfl #[.agg #[.int .i64 a0_0, .int .i64 a0_1]] rfl (by (try simp only [List.map_toArray, List.map_cons, List.map_nil]); first | done | rfl | (simp only [List.length_drop, List.length_take]; rfl)) ?_; (with_reducible refine (impl_GridOk.calls a0_0 a0_1 t127 _ A24.out).mono ?_); rintro e w26 ⟨rfl, hb⟩; refine ⟨_, rfl, ?_⟩; have n0_ := qab.mk (qam (g := gb123) (o := .cells #[.int .i64 a0_0, .int .i64 a0_1, .slice A0_2 l0_2.length c0_2] 34 (0, 0)) (by (with_reducible repeat (first | refine qag ?_ _ | refine qaj ?_ | refine qaf ?_ _)); exact BK123.out) hb); have n1_ := qab.mk (qak (by repeat (first | (with_reducible first | exact HB.out | apply qad | apply qaa | apply qac | refine qae ?_ GE123.out) | exact HB.out)) hb); clear BK123; clear HB; have BK123 := n0_; have HB := n1_; clear n0_ n1_; (try clear hb); (try clear hb2); (try clear hk); (try clear hi)))
    go_ret
    exact ⟨by first | rfl | (simp [errW_none, errW_some] <;> rfl) | (simp [*, errW_none, errW_some] <;> rfl), by repeat (first | (with_reducible first | exact HB.out | apply qad | apply qaa | apply qac | refine qae ?_ GE123.out) | exact HB.out)⟩


/-! ### impl_pairs: function 102 (by hand) -/
/-- the pairs of a row from the column j on, the diagonal left out -/
def prow (n i j : Nat) : List (Int × Int) := ((List.range' j (n - j)).filter fun (b : Nat) => decide (i ≠ b)).map fun (b : Nat) => ((i : Int), (b : Int))
/-- all pairs from the row i on -/
def pall (n i : Nat) : List (Int × Int) := (List.range' i (n - i)).flatMap fun a => prow n a 0
theorem prow_end (n i : Nat) : prow n i n = [] := by simp [prow]
theorem pall_end (n : Nat) : pall n n = [] := by simp [pall]
theorem prow_eq {n i : Nat} (h : i < n) : prow n i i = prow n i (i + 1) := by
 unfold prow
 rw [show n - i = (n - (i + 1)) + 1 by omega, List.range'_succ, List.filter_cons, if_neg (by simp)]
theorem prow_ne {n i j : Nat} (h : j < n) (c : i ≠ j) : prow n i j = ((i : Int), (j : Int)) :: prow n i (j + 1) := by
 unfold prow
 rw [show n - j = (n - (j + 1)) + 1 by omega, List.range'_succ, List.filter_cons, if_pos (by simpa using c), List.map_cons]
theorem pall_lt {n i : Nat} (h : i < n) : pall n i = prow n i 0 ++ pall n (i + 1) := by
 unfold pall
 rw [show n - i = (n - (i + 1)) + 1 by omega, List.range'_succ, List.flatMap_cons]
set_option maxHeartbeats 2000000 in
set_option maxRecDepth 100000 in
theorem impl_pairs.abs (w h : Int) (n : Nat) (hn : impl_NodeCount.f w h = some (n : Int)) (hn16 : n ≤ 16) (g : Nat) (lb : Array Value) (R0 : Bool) (J : List (Int × Int) → World → Prop) (QF : World → Prop)
  (eg : ∀ args W, (callFunc g args).run Try.prog W = .ok (.enter g args) W)
  (hJ : ∀ l W W', J l W → Below W.heap.size W W' → J l W')
  (hstep : ∀ a b l W, J ((a, b) :: l) W → ∃ r : Bool, Calls Try.prog g (#[.int .i64 a, .int .i64 b] ++ lb) W fun e W' => e = .returned (.bool r) ∧ (r = true → J l W') ∧ (r = false → R0 = false ∧ QF W'))
  (hend : ∀ W, J [] W → R0 = true ∧ QF W) (w0 : World) (h0 : J (pall n 0) w0) :
  Calls Try.prog 102 #[.agg #[.int .i64 w, .int .i64 h], .func (.func g) #[] lb] w0 fun e W' => e = .returned (.bool R0) ∧ QF W' := by
 have HN := qab.mk hn
 have HJs := qab.mk hJ
 have HS := qab.mk hstep
 have HE := qab.mk hend
 have H0 := qab.mk h0
 have HB := qab.mk (Below.refl w0.heap.size w0)
 clear hn hJ hstep hend h0
 go_enter Try.func102, Try.ntmps102
 go_wp2_with (go_at_call 99; refine (impl_NodeCount.calls w h n _ HN.out).mono ?_; rintro e w' ⟨rfl, hb⟩; have HB2 := qab.mk (qak (by repeat (first | (with_reducible first | exact HB.out | apply qad | apply qaa | apply qac) | exact HB.out)) hb); clear hb)
 have HJ := qab.mk (HJs.out _ _ _ H0.out HB2.out)
 clear HB HB2 H0 HN
 go_loopg [11] (n + 1) (fun kq v11 wr => ∃ i : Nat, i ≤ n ∧ n - i < kq ∧ v11 = .int .i64 (i : Int) ∧ qab (J (pall n i) wr))
 case atStart => exact ⟨0, Nat.zero_le _, by omega, rfl, HJ⟩
 case round =>
  clear HJ
  obtain ⟨i, hi, hgk, rfl, HJ⟩ := hrel
  obtain ⟨wo, rfl⟩ : ∃ wo : World, wo = wr := ⟨_, rfl⟩
  by_cases hlt : i < n
  ·have hltz : (i : Int) < (n : Int) := by omega
   have HJ1 : qab (J (prow n i 0 ++ pall n (i + 1)) wo) := ⟨pall_lt hlt ▸ HJ.out⟩
   clear HJ
   go_wp2
   go_loopg [15] (n + 1) (fun kq v15 wr => ∃ j : Nat, j ≤ n ∧ n - j < kq ∧ v15 = .int .i64 (j : Int) ∧ qab (J (prow n i j ++ pall n (i + 1)) wr))
   case atStart => exact ⟨0, Nat.zero_le _, by omega, rfl, HJ1⟩
   case round =>
    clear HJ1
    obtain ⟨j, hj, hgk2, rfl, HJ2⟩ := hrel
    by_cases hlt2 : j < n
    ·have hltz2 : (j : Int) < (n : Int) := by omega
     by_cases hne : i = j
     ·have hb1 : ((i : Int) == (j : Int)) = true := beq_iff_eq.2 (by omega)
      have hb2 : ((i : Int) != (j : Int)) = false := bne_eq_false_iff_eq.2 (by omega)
      have HJ3 : qab (J (prow n i (j + 1) ++ pall n (i + 1)) wr) := ⟨by have := HJ2.out; subst hne; rw [prow_eq hlt] at this; exact this⟩
      clear HJ2 hne
      go_wp2
      go_roundg (n - j)
      case measure => omega
      case rel => exact ⟨j + 1, by omega, by omega, by go_num, HJ3⟩
     ·have hb1 : ((i : Int) == (j : Int)) = false := beq_eq_false_iff_ne.2 (by omega)
      have hb2 : ((i : Int) != (j : Int)) = true := bne_iff_ne.2 (by omega)
      obtain ⟨r, hc⟩ := HS.out (i : Int) (j : Int) (prow n i (j + 1) ++ pall n (i + 1)) wr (by have := HJ2.out; rw [prow_ne hlt2 hne] at this; exact this)
      have HC := qab.mk hc
      clear hc HJ2 hne
      cases r with
      | true =>
       go_wp2_with (fail)
       refine (HC.out).mono ?_
       rintro e w' ⟨rfl, h1, h2⟩
       have HJ3 := qab.mk (h1 (by first | rfl | trivial))
       clear h1 h2 HC
       go_wp2_with (fail)
       go_roundg (n - j)
       case measure => omega
       case rel => exact ⟨j + 1, by omega, by omega, by go_num, HJ3⟩
      | false =>
       go_wp2_with (fail)
       refine (HC.out).mono ?_
       rintro e w' ⟨rfl, h1, h2⟩
       have HJ3 := qab.mk (h2 (by first | rfl | trivial))
       clear h1 h2 HC
       go_wp2_with (fail)
       go_ret
       exact ⟨congrArg (fun b => Ending.returned (.bool b)) HJ3.out.1.symm, HJ3.out.2⟩
    ·have hltz2 : ¬ (j : Int) < (n : Int) := by omega
     have HJ3 : qab (J (pall n (i + 1)) wr) := ⟨by have := HJ2.out; rw [show j = n by omega, prow_end, List.nil_append] at this; exact this⟩
     clear HJ2
     go_wp2
     go_roundg (n - i)
     case measure => omega
     case rel => exact ⟨i + 1, by omega, by omega, by go_num, HJ3⟩
  ·have hltz : ¬ (i : Int) < (n : Int) := by omega
   have HJ3 : qab (J [] wo) := ⟨by have := HJ.out; rw [show i = n by omega, pall_end] at this; exact this⟩
   clear HJ
   go_wp2
   go_ret
   exact ⟨congrArg (fun b => Ending.returned (.bool b)) (HE.out _ HJ3.out).1.symm, (HE.out _ HJ3.out).2⟩



/-! ### impl_PortAt: function 109 -/
def impl_PortAt.f (k : Nat) (a0_0 : Int) (a0_1 : Int) (l0_2 : List Int) (l1_0 : List Int) (a2 : Int) (a3 : Int) : Option (Int) := (impl_NodeCount.f a0_0 a0_1).bind fun t130 => ((impl_MeshOk.f k a0_0 a0_1 l0_2).bind fun t131 => (if t131 = true then ((impl_inside.f a2 0 (wrap64 (t130 - 1))).bind fun t132 => (if t132 = true then ((impl_inside.f a3 0 (wrap64 (t130 - 1))).bind fun t133 => (if t133 = true then (if (l1_0.length : Int) = (wrap64 (t130 * t130)) then (if 0 ≤ (wrap64 ((wrap64 (a2 * t130)) + a3)) then (if (wrap64 ((wrap64 (a2 * t130)) + a3)) < (l1_0.length : Int) then ((impl_inside.f (rd l1_0 (wrap64 ((wrap64 (a2 * t130)) + a3))) 0 4).bind fun t135 => (if t135 = true then (some (rd l1_0 (wrap64 ((wrap64 (a2 * t130)) + a3)))) else (some (-1)))) else (none)) else (none)) else (some (-1))) else (some (-1)))) else (some (-1)))) else (some (-1))))
theorem impl_PortAt.mono : ∀ a0 a1 a2 a3 a4 a5 k, LeO (impl_PortAt.f k a0 a1 a2 a3 a4 a5) (impl_PortAt.f (k + 1) a0 a1 a2 a3 a4 a5) := by
 intro a0 a1 a2 a3 a4 a5 k
 unfold impl_PortAt.f
 repeat' first
   | (with_reducible exact impl_MeshOk.mono _ _ _ _)
   | (with_reducible exact LeO.refl _)
   | (with_reducible exact LeO.none _)
   | (with_reducible refine LeO.ite ?_ ?_)
   | (with_reducible refine LeO.bind ?_ (fun _ => ?_))
   | exact impl_MeshOk.mono _ _ _ _
   | exact LeO.none _
   | refine LeO.ite ?_ ?_
   | refine LeO.bind ?_ (fun _ => ?_)
set_option maxHeartbeats 8000000 in
set_option maxRecDepth 100000 in
theorem impl_PortAt.calls (k : Nat) (a0_0 : Int) (a0_1 : Int) (A0_2 : Option Addr) (c0_2 : Nat) (l0_2 : List Int) (A1_0 : Option Addr) (c1_0 : Nat) (l1_0 : List Int) (a2 : Int) (a3 : Int) (r : Int) (w : World) (hr0_2 : Kd.C (Kd.int .i64) w A0_2 l0_2.length l0_2) (hc0_2 : l0_2.length ≤ c0_2) (hr1_0 : Kd.C (Kd.int .i64) w A1_0 l1_0.length l1_0) (hc1_0 : l1_0.length ≤ c1_0) (h : impl_PortAt.f k a0_0 a0_1 l0_2 l1_0 a2 a3 = some r) :
  Calls Try.prog 109 #[.agg #[.int .i64 a0_0, .int .i64 a0_1, .slice A0_2 l0_2.length c0_2], .agg #[.slice A1_0 l1_0.length c1_0], .int .i64 a2, .int .i64 a3] w fun e w' => e = .returned (.int .i64 r) ∧ Below w.heap.size w w' := by
 have hu34 := Try.underlying34
 have hu36 := Try.underlying36
 have hu32 := Try.underlying32
 have HR0_2 := qab.mk hr0_2
 have HC0_2 := qab.mk hc0_2
 clear hr0_2 hc0_2
 have HR1_0 := qab.mk hr1_0
 have HC1_0 := qab.mk hc1_0
 clear hr1_0 hc1_0
 have HB := qab.mk (Below.refl w.heap.size w)
 have H : ((impl_NodeCount.f a0_0 a0_1).bind fun t130 => ((impl_MeshOk.f k a0_0 a0_1 l0_2).bind fun t131 => (if t131 = true then ((impl_inside.f a2 0 (wrap64 (t130 - 1))).bind fun t132 => (if t132 = true then ((impl_inside.f a3 0 (wrap64 (t130 - 1))).bind fun t133 => (if t133 = true then (if (l1_0.length : Int) = (wrap64 (t130 * t130)) then (if 0 ≤ (wrap64 ((wrap64 (a2 * t130)) + a3)) then (if (wrap64 ((wrap64 (a2 * t130)) + a3)) < (l1_0.length : Int) then ((impl_inside.f (rd l1_0 (wrap64 ((wrap64 (a2 * t130)) + a3))) 0 4).bind fun t135 => (if t135 = true then (some (rd l1_0 (wrap64 ((wrap64 (a2 * t130)) + a3)))) else (some (-1)))) else (none)) else (none)) else (some (-1))) else (some (-1)))) else (some (-1)))) else (some (-1))))) = some r := h
 clear h
 replace H := Option.bind_eq_some_iff.mp H
 obtain ⟨t130, A50, H⟩ := H
 try dsimp only at H
 have A5 := qab.mk A50
 clear A50
 replace H := Option.bind_eq_some_iff.mp H
 obtain ⟨t131, A60, H⟩ := H
 try dsimp only at H
 have A6 := qab.mk A60
 clear A60
 by_cases c7 : t131 = true
 ·subst c7
  have H1 := H
  rw [if_pos rfl] at H1
  clear H
  have H := H1
  clear H1
  replace H := Option.bind_eq_some_iff.mp H
  obtain ⟨t132, A80, H⟩ := H
  try dsimp only at H
  have A8 := qab.mk A80
  clear A80
  by_cases c9 : t132 = true
  ·subst c9
   have H1 := H
   rw [if_pos rfl] at H1
   clear H
   have H := H1
   clear H1
   replace H := Option.bind_eq_some_iff.mp H
   obtain ⟨t133, A100, H⟩ := H
   try dsimp only at H
   have A10 := qab.mk A100
   clear A100
   by_cases c11 : t133 = true
   ·subst c11
    have H1 := H
    rw [if_pos rfl] at H1
    clear H
    have H := H1
    clear H1
    by_cases c12 : (l1_0.length : Int) = (wrap64 (t130 * t130))
    ·rw [if_pos c12] at H
     have c12b0 : ((l1_0.length : Int) == (wrap64 (t130 * t130))) = true := beq_iff_eq.mpr c12
     have c12b1 : ((l1_0.length : Int) != (wrap64 (t130 * t130))) = false := bne_eq_false_iff_eq.mpr c12
     clear c12
     obtain ⟨ji13, hji13⟩ : ∃ j_ : Int, (wrap64 ((wrap64 (a2 * t130)) + a3)) = j_ := ⟨_, rfl⟩
     replace H : (if 0 ≤ (ji13) then (if (ji13) < (l1_0.length : Int) then ((impl_inside.f (rd l1_0 (ji13)) 0 4).bind fun t135 => (if t135 = true then (some (rd l1_0 (ji13))) else (some (-1)))) else (none)) else (none)) = some r := by first | (rw [hji13] at H; exact H) | (simp only [hji13] at H ⊢; exact H)
     (try rw [hji13] at A5)
     (try rw [hji13] at A6)
     (try rw [hji13] at A8)
     (try rw [hji13] at A10)
     have hji13w : (IntKind.i64.wrap ((wrap64 (a2 * t130)) + a3)) = ji13 := (i64_w _).trans hji13
     by_cases c14 : 0 ≤ (ji13)
     ·rw [if_pos c14] at H
      have c14b0 : decide (0 ≤ (ji13)) = true := decide_eq_true c14
      clear c14
      by_cases c15 : (ji13) < (l1_0.length : Int)
      ·rw [if_pos c15] at H
       have c15b0 : decide ((ji13) < (l1_0.length : Int)) = true := decide_eq_true c15
       clear c15
       replace H := Option.bind_eq_some_iff.mp H
       obtain ⟨t135, A160, H⟩ := H
       try dsimp only at H
       have A16 := qab.mk A160
       clear A160
       by_cases c17 : t135 = true
       ·subst c17
        have H1 := H
        rw [if_pos rfl] at H1
        clear H
        have H := H1
        clear H1
        obtain rfl := Option.some.inj H
        go_enter Try.func109, Try.ntmps109
        go_wp2_with (first | ((with_reducible refine qas (N := 4) rfl ?_); (try (refine qbh (by rfl) ?_; dsimp only)); refine qar ?hg (N := 4) ?hd (cs := #[.int .i64 a0_0, .int .i64 a0_1, .slice A0_2 l0_2.length c0_2]) (t := 34) ?hr ?_; (case hd => rfl); (case hg => rfl); (case hr => first | (go_simp; done) | (go_simp; rfl)); intro gb128 hg w18 hbox hb; have n0_ := qab.mk (qak (by repeat (first | (with_reducible first | exact HB.out | apply qad | apply qaa | apply qac) | exact HB.out)) hb); have n1_ := qab.mk (hbox); have n2_ := qab.mk ((by rw [hg]; exact (qal (by repeat (first | (with_reducible first | exact HB.out | apply qad | apply qaa | apply qac) | exact HB.out))) : w.heap.size ≤ gb128)); have n3_ := qab.mk ((by rw [hg]; exact (qal (by repeat (first | (with_reducible first | exact HB.out | apply qad | apply qaa | apply qac) | exact HB.out))) : w.heap.size ≤ gb128)); clear HB; have HB := n0_; have BK128 := n1_; have GW128 := n2_; have GE128 := n3_; clear n0_ n1_ n2_ n3_; clear hb hbox hg) | ((with_reducible refine qas (N := 5) rfl ?_); (try (refine qbh (by rfl) ?_; dsimp only)); refine qar ?hg (N := 5) ?hd (cs := #[.slice A1_0 l1_0.length c1_0]) (t := 36) ?hr ?_; (case hd => rfl); (case hg => rfl); (case hr => first | (go_simp; done) | (go_simp; rfl)); intro gb129 hg w19 hbox hb; have n0_ := qab.mk (qam (g := gb128) (o := .cells #[.int .i64 a0_0, .int .i64 a0_1, .slice A0_2 l0_2.length c0_2] 34 (0, 0)) (by (with_reducible repeat (first | refine qag ?_ _ | refine qaj ?_ | refine qaf ?_ _)); exact BK128.out) hb); have n1_ := qab.mk (qak (by repeat (first | (with_reducible first | exact HB.out | apply qad | apply qaa | apply qac | refine qae ?_ GE128.out) | exact HB.out)) hb); have n2_ := qab.mk (hbox); have n3_ := qab.mk ((by rw [hg]; exact (qal (by repeat (first | (with_reducible first | exact HB.out | apply qad | apply qaa | apply qac | refine qae ?_ GE128.out) | exact HB.out))) : w.heap.size ≤ gb129)); have n4_ := qab.mk ((by rw [hg]; exact (qal (by repeat (first | (with_reducible first | exact HB.out | apply qad | apply qaa | apply qac | refine qae ?_ GE128.out) | exact HB.out))) : w.heap.size ≤ gb129)); have n5_ := qab.mk ((by rw [hg]; exact Nat.ne_of_lt (qbo (g := gb128) (o := .cells #[.int .i64 a0_0, .int .i64 a0_1, .slice A0_2 l0_2.length c0_2] 34 (0, 0)) (by (with_reducible repeat (first | refine qag ?_ _ | refine qaj ?_ | refine qaf ?_ _)); exact BK128.out)) : gb128 ≠ gb129)); have n6_ := qab.mk ((by rw [hg]; exact Nat.ne_of_gt (qbo (g := gb128) (o := .cells #[.int .i64 a0_0, .int .i64 a0_1, .slice A0_2 l0_2.length c0_2] 34 (0, 0)) (by (with_reducible repeat (first | refine qag ?_ _ | refine qaj ?_ | refine qaf ?_ _)); exact BK128.out)) : gb129 ≠ gb128)); clear BK128; clear HB; have BK128 := n0_; have HB := n1_; have BK129 := n2_; have GW129 := n3_; have GE129 := n4_; have NB128_129 := n5_; have NB129_128 := n6_; clear n0_ n1_ n2_ n3_ n4_ n5_ n6_; clear hb hbox hg; have hnb20 := NB128_129.out; have hnc20 := NB129_128.out; have hcz21_0 : w19.cell? ⟨gb128, 0, none⟩ = some (.int .i64 a0_0) := (qai BK128.out 0).trans rfl; have hcz21_1 : w19.cell? ⟨gb128, 1, none⟩ = some (.int .i64 a0_1) := (qai BK128.out 1).trans rfl; have hcz21_2 : w19.cell? ⟨gb128, 2, none⟩ = some (.slice A0_2 l0_2.length c0_2) := (qai BK128.out 2).trans rfl; have hfz21_0 := qah BK128.out 0; have hfz21_1 := qah BK128.out 1; have hfz21_2 := qah BK128.out 2) | ((with_reducible refine qaq (f := 99) rfl ?_); refine qbe (some 12) rfl rfl Try.func99 (by kernel_rfl) rfl #[.agg #[.int .i64 a0_0, .int .i64 a0_1]] rfl (by (try simp only [List.map_toArray, List.map_cons, List.map_nil]); first | done | rfl | (simp only [List.length_drop, List.length_take]; rfl)) ?_; (with_reducible refine (impl_NodeCount.calls a0_0 a0_1 t130 _ A5.out).mono ?_); rintro e w22 ⟨rfl, hb⟩; refine ⟨_, rfl, ?_⟩; have n0_ := qab.mk (qam (g := gb128) (o := .cells #[.int .i64 a0_0, .int .i64 a0_1, .slice A0_2 l0_2.length c0_2] 34 (0, 0)) (by (with_reducible repeat (first | refine qag ?_ _ | refine qaj ?_ | refine qaf ?_ _)); exact BK128.out) hb); have n1_ := qab.mk (qam (g := gb129) (o := .cells #[.slice A1_0 l1_0.length c1_0] 36 (0, 0)) (by (with_reducible repeat (first | refine qag ?_ _ | refine qaj ?_ | refine qaf ?_ _)); exact BK129.out) hb); have n2_ := qab.mk (qak (by repeat (first | (with_reducible first | exact HB.out | apply qad | apply qaa | apply qac | refine qae ?_ GE128.out | refine qae ?_ GE129.out) | exact HB.out)) hb); clear BK128; clear BK129; clear HB; have BK128 := n0_; have BK129 := n1_; have HB := n2_; clear n0_ n1_ n2_; (try clear hb); (try clear hb2); (try clear hk); (try clear hi); have hcz23_0 : w22.cell? ⟨gb128, 0, none⟩ = some (.int .i64 a0_0) := (qai BK128.out 0).trans rfl; have hcz23_1 : w22.cell? ⟨gb128, 1, none⟩ = some (.int .i64 a0_1) := (qai BK128.out 1).trans rfl; have hcz23_2 : w22.cell? ⟨gb128, 2, none⟩ = some (.slice A0_2 l0_2.length c0_2) := (qai BK128.out 2).trans rfl; have hfz23_0 := qah BK128.out 0; have hfz23_1 := qah BK128.out 1; have hfz23_2 := qah BK128.out 2) | ((with_reducible refine qaq (f := 101) rfl ?_); refine qbe (some 14) rfl rfl Try.func101 (by kernel_rfl) rfl #[.agg #[.int .i64 a0_0, .int .i64 a0_1, .slice A0_2 l0_2.length c0_2]] rfl (by (try simp only [List.map_toArray, List.map_cons, List.map_nil]); first | done | rfl | (simp only [List.length_drop, List.length_take]; rfl)) ?_; (with_reducible refine (impl_MeshOk.calls k a0_0 a0_1 _ _ l0_2 true _ ?side1 ?side2 A6.out).mono ?_); (case side1 => repeat (first | exact (Kd.qbf HR0_2.out HB.out) | (with_reducible first | refine Kd.qaz ?_ _ | refine Kd.qay ?_ _ | refine Kd.qbd ?_))); (case side2 => exact HC0_2.out); rintro e w24 ⟨rfl, hb⟩; refine ⟨_, rfl, ?_⟩; have n0_ := qab.mk (qam (g := gb128) (o := .cells #[.int .i64 a0_0, .int .i64 a0_1, .slice A0_2 l0_2.length c0_2] 34 (0, 0)) (by (with_reducible repeat (first | refine qag ?_ _ | refine qaj ?_ | refine qaf ?_ _)); exact BK128.out) hb); have n1_ := qab.mk (qam (g := gb129) (o := .cells #[.slice A1_0 l1_0.length c1_0] 36 (0, 0)) (by (with_reducible repeat (first | refine qag ?_ _ | refine qaj ?_ | refine qaf ?_ _)); exact BK129.out) hb); have n2_ := qab.mk (qak (by repeat (first | (with_reducible first | exact HB.out | apply qad | apply qaa | apply qac | refine qae ?_ GE128.out | refine qae ?_ GE129.out) | exact HB.out)) hb); clear BK128; clear BK129; clear HB; have BK128 := n0_; have BK129 := n1_; have HB := n2_; clear n0_ n1_ n2_; (try clear hb); (try clear hb2); (try clear hk); (try clear hi)) | (go_at_call 98; (with_reducible refine (impl_inside.calls a2 0 (wrap64 (t130 - 1)) true _ A8.out).mono ?_); rintro e w' ⟨rfl, ⟨nd, rfl⟩⟩) | (go_at_call 98; (with_reducible refine (impl_inside.calls a3 0 (wrap64 (t130 - 1)) true _ A10.out).mono ?_); rintro e w' ⟨rfl, ⟨nd, rfl⟩⟩; have hcz25_0 : w24.cell? ⟨gb129, 0, none⟩ = some (.slice A1_0 l1_0.length c1_0) := (qai BK129.out 0).trans rfl; have hfz25_0 := qah BK129.out 0; have p134 : 0 ≤ ((ji13) : Int) := of_decide_eq_true (by first | (with_reducible assumption) | assumption); have q134 : (ji13) < (l1_0.length : Int) := of_decide_eq_true (by first | (with_reducible assumption) | assumption); obtain ⟨ad134, e134, hx134_0⟩ := Kd.qcc HR1_0.out (ji13) p134 q134; cases e134; replace hx134_0 := (HB.out.cell (World.block_lt_of_cell? w _ hx134_0)).trans hx134_0; replace p134 := eq_true p134; replace q134 := eq_true q134) | (go_at_call 98; (with_reducible refine (impl_inside.calls (rd l1_0 (ji13)) 0 4 true _ A16.out).mono ?_); rintro e w' ⟨rfl, ⟨nd, rfl⟩⟩; have p136 : 0 ≤ ((ji13) : Int) := of_decide_eq_true (by first | (with_reducible assumption) | assumption); have q136 : (ji13) < (l1_0.length : Int) := of_decide_eq_true (by first | (with_reducible assumption) | assumption); obtain ⟨ad136, e136, hx136_0⟩ := Kd.qcc HR1_0.out (ji13) p136 q136; obtain rfl : ad134 = ad136 := (by injection e136); replace hx136_0 := (HB.out.cell (World.block_lt_of_cell? w _ hx136_0)).trans hx136_0; replace p136 := eq_true p136; replace q136 := eq_true q136))
        go_ret
        exact ⟨by first | rfl | (simp [errW_none, errW_some] <;> rfl) | (simp only [← hji13]; first | rfl | (simp [errW_none, errW_some] <;> rfl)) | (simp [*, errW_none, errW_some] <;> rfl), by repeat (first | (with_reducible first | exact HB.out | apply qad | apply qaa | apply qac | refine qae ?_ GE128.out | refine qae ?_ GE129.out) | exact HB.out)⟩
       ·replace c17 := Bool.eq_false_iff.mpr c17
        subst c17
        have H1 := H
        rw [if_neg (show ¬ (false = true) by decide)] at H1
        clear H
        have H := H1
        clear H1
        obtain rfl := Option.some.inj H
        go_enter Try.func109, Try.ntmps109
        go_wp2_with (first | ((with_reducible refine qas (N := 4) rfl ?_); (try (refine qbh (by rfl) ?_; dsimp only)); refine qar ?hg (N := 4) ?hd (cs := #[.int .i64 a0_0, .int .i64 a0_1, .slice A0_2 l0_2.length c0_2]) (t := 34) ?hr ?_; (case hd => rfl); (case hg => rfl); (case hr => first | (go_simp; done) | (go_simp; rfl)); intro gb128 hg w26 hbox hb; have n0_ := qab.mk (qak (by repeat (first | (with_reducible first | exact HB.out | apply qad | apply qaa | apply qac) | exact HB.out)) hb); have n1_ := qab.mk (hbox); have n2_ := qab.mk ((by rw [hg]; exact (qal (by repeat (first | (with_reducible first | exact HB.out | apply qad | apply qaa | apply qac) | exact HB.out))) : w.heap.size ≤ gb128)); have n3_ := qab.mk ((by rw [hg]; exact (qal (by repeat (first | (with_reducible first | exact HB.out | apply qad | apply qaa | apply qac) | exact HB.out))) : w.heap.size ≤ gb128)); clear HB; have HB := n0_; have BK128 := n1_; have GW128 := n2_; have GE128 := n3_; clear n0_ n1_ n2_ n3_; clear hb hbox hg) | ((with_reducible refine qas (N := 5) rfl ?_); (try (refine qbh (by rfl) ?_; dsimp only)); refine qar ?hg (N := 5) ?hd (cs := #[.slice A1_0 l1_0.length c1_0]) (t := 36) ?hr ?_; (case hd => rfl); (case hg => rfl); (case hr => first | (go_simp; done) | (go_simp; rfl)); intro gb129 hg w27 hbox hb; have n0_ := qab.mk (qam (g := gb128) (o := .cells #[.int .i64 a0_0, .int .i64 a0_1, .slice A0_2 l0_2.length c0_2] 34 (0, 0)) (by (with_reducible repeat (first | refine qag ?_ _ | refine qaj ?_ | refine qaf ?_ _)); exact BK128.out) hb); have n1_ := qab.mk (qak (by repeat (first | (with_reducible first | exact HB.out | apply qad | apply qaa | apply qac | refine qae ?_ GE128.out) | exact HB.out)) hb); have n2_ := qab.mk (hbox); have n3_ := qab.mk ((by rw [hg]; exact (qal (by repeat (first | (with_reducible first | exact HB.out | apply qad | apply qaa | apply qac | refine qae ?_ GE128.out) | exact HB.out))) : w.heap.size ≤ gb129)); have n4_ := qab.mk ((by rw [hg]; exact (qal (by repeat (first | (with_reducible first | exact HB.out | apply qad | apply qaa | apply qac | refine qae ?_ GE128.out) | exact HB.out))) : w.heap.size ≤ gb129)); have n5_ := qab.mk ((by rw [hg]; exact Nat.ne_of_lt (qbo (g := gb128) (o := .cells #[.int .i64 a0_0, .int .i64 a0_1, .slice A0_2 l0_2.length c0_2] 34 (0, 0)) (by (with_reducible repeat (first | refine qag ?_ _ | refine qaj ?_ | refine qaf ?_ _)); exact BK128.out)) : gb128 ≠ gb129)); have n6_ := qab.mk ((by rw [hg]; exact Nat.ne_of_gt (qbo (g := gb128) (o := .cells #[.int .i64 a0_0, .int .i64 a0_1, .slice A0_2 l0_2.length c0_2] 34 (0, 0)) (by (with_reducible repeat (first | refine qag ?_ _ | refine qaj ?_ | refine qaf ?_ _)); exact BK128.out)) : gb129 ≠ gb128)); clear BK128; clear HB; have BK128 := n0_; have HB := n1_; have BK129 := n2_; have GW129 := n3_; have GE129 := n4_; have NB128_129 := n5_; have NB129_128 := n6_; clear n0_ n1_ n2_ n3_ n4_ n5_ n6_; clear hb hbox hg; have hnb28 := NB128_129.out; have hnc28 := NB129_128.out; have hcz29_0 : w27.cell? ⟨gb128, 0, none⟩ = some (.int .i64 a0_0) := (qai BK128.out 0).trans rfl; have hcz29_1 : w27.cell? ⟨gb128, 1, none⟩ = some (.int .i64 a0_1) := (qai BK128.out 1).trans rfl; have hcz29_2 : w27.cell? ⟨gb128, 2, none⟩ = some (.slice A0_2 l0_2.length c0_2) := (qai BK128.out 2).trans rfl; have hfz29_0 := qah BK128.out 0; have hfz29_1 := qah BK128.out 1; have hfz29_2 := qah BK128.out 2) | ((with_reducible refine qaq (f := 99) rfl ?_); refine qbe (some 12) rfl rfl Try.func99 (by kernel_rfl) rfl #[.agg #[.int .i64 a0_0, .int .i64 a0_1]] rfl (by (try simp only [List.map_toArray, List.map_cons, List.map_nil]); first | done | rfl | (simp only [List.length_drop, List.length_take]; rfl)) ?_; (with_reducible refine (impl_NodeCount.calls a0_0 a0_1 t130 _ A5.out).mono ?_); rintro e w30 ⟨rfl, hb⟩; refine ⟨_, rfl, ?_⟩; have n0_ := qab.mk (qam (g := gb128) (o := .cells #[.int .i64 a0_0, .int .i64 a0_1, .slice A0_2 l0_2.length c0_2] 34 (0, 0)) (by (with_reducible repeat (first | refine qag ?_ _ | refine qaj ?_ | refine qaf ?_ _)); exact BK128.out) hb); have n1_ := qab.mk (qam (g := gb129) (o := .cells #[.slice A1_0 l1_0.length c1_0] 36 (0, 0)) (by (with_reducible repeat (first | refine qag ?_ _ | refine qaj ?_ | refine qaf ?_ _)); exact BK129.out) hb); have n2_ := qab.mk (qak (by repeat (first | (with_reducible first | exact HB.out | apply qad | apply qaa | apply qac | refine qae ?_ GE128.out | refine qae ?_ GE129.out) | exact HB.out)) hb); clear BK128; clear BK129; clear HB; have BK128 := n0_; have BK129 := n1_; have HB := n2_; clear n0_ n1_ n2_; (try clear hb); (try clear hb2); (try clear hk); (try clear hi); have hcz31_0 : w30.cell? ⟨gb128, 0, none⟩ = some (.int .i64 a0_0) := (qai BK128.out 0).trans rfl; have hcz31_1 : w30.cell? ⟨gb128, 1, none⟩ = some (.int .i64 a0_1) := (qai BK128.out 1).trans rfl; have hcz31_2 : w30.cell? ⟨gb128, 2, none⟩ = some (.slice A0_2 l0_2.length c0_2) := (qai BK128.out 2).trans rfl; have hfz31_0 := qah BK128.out 0; have hfz31_1 := qah BK128.out 1; have hfz31_2 := qah BK128.out 2) | ((with_reducible refine qaq (f := 101) rfl ?_); refine qbe (some 14) rfl rfl Try.func101 (by kernel_rfl) rfl #[.agg #[.int .i64 a0_0, .int .i64 a0_1, .slice A0_2 l0_2.length c0_2]] rfl (by (try simp only [List.map_toArray, List.map_cons, List.map_nil]); first | done | rfl | (simp only [List.length_drop, List.length_take]; rfl)) ?_; (with_reducible refine (impl_MeshOk.calls k a0_0 a0_1 _ _ l0_2 true _ ?side1 ?side2 A6.out).mono ?_); (case side1 => repeat (first | exact (Kd.qbf HR0_2.out HB.out) | (with_reducible first | refine Kd.qaz ?_ _ | refine Kd.qay ?_ _ | refine Kd.qbd ?_))); (case side2 => exact HC0_2.out); rintro e w32 ⟨rfl, hb⟩; refine ⟨_, rfl, ?_⟩; have n0_ := qab.mk (qam (g := gb128) (o := .cells #[.int .i64 a0_0, .int .i64 a0_1, .slice A0_2 l0_2.length c0_2] 34 (0, 0)) (by (with_reducible repeat (first | refine qag ?_ _ | refine qaj ?_ | refine qaf ?_ _)); exact BK128.out) hb); have n1_ := qab.mk (qam (g := gb129) (o := .cells #[.slice A1_0 l1_0.length c1_0] 36 (0, 0)) (by (with_reducible repeat (first | refine qag ?_ _ | refine qaj ?_ | refine qaf ?_ _)); exact BK129.out) hb); have n2_ := qab.mk (qak (by repeat (first | (with_reducible first | exact HB.out | apply qad | apply qaa | apply qac | refine qae ?_ GE128.out | refine qae ?_ GE129.out) | exact HB.out)) hb); clear BK128; clear BK129; clear HB; have BK128 := n0_; have BK129 := n1_; have HB := n2_; clear n0_ n1_ n2_; (try clear hb); (try clear hb2); (try clear hk); (try clear hi)) | (go_at_call 98; (with_reducible refine (impl_inside.calls a2 0 (wrap64 (t130 - 1)) true _ A8.out).mono ?_); rintro e w' ⟨rfl, ⟨nd, rfl⟩⟩) | (go_at_call 98; (with_reducible refine (impl_inside.calls a3 0 (wrap64 (t130 - 1)) true _ A10.out).mono ?_); rintro e w' ⟨rfl, ⟨nd, rfl⟩⟩; have hcz33_0 : w32.cell? ⟨gb129, 0, none⟩ = some (.slice A1_0 l1_0.length c1_0) := (qai BK129.out 0).trans rfl; have hfz33_0 := qah BK129.out 0; have p134 : 0 ≤ ((ji13) : Int) := of_decide_eq_true (by first | (with_reducible assumption) | assumption); have q134 : (ji13) < (l1_0.length : Int) := of_decide_eq_true (by first | (with_reducible assumption) | assumption); obtain ⟨ad134, e134, hx134_0⟩ := Kd.qcc HR1_0.out (ji13) p134 q134; cases e134; replace hx134_0 := (HB.out.cell (World.block_lt_of_cell? w _ hx134_0)).trans hx134_0; replace p134 := eq_true p134; replace q134 := eq_true q134) | (go_at_call 98; (with_reducible refine (impl_inside.calls (rd l1_0 (ji13)) 0 4 false _ A16.out).mono ?_); rintro e w' ⟨rfl, ⟨nd, rfl⟩⟩))
        go_ret
        exact ⟨by first | rfl | (simp [errW_none, errW_some] <;> rfl) | (simp only [← hji13]; first | rfl | (simp [errW_none, errW_some] <;> rfl)) | (simp [*, errW_none, errW_some] <;> rfl), by repeat (first | (with_reducible first | exact HB.out | apply qad | apply qaa | apply qac | refine qae ?_ GE128.out | refine qae ?_ GE129.out) | exact HB.out)⟩
      ·rw [if_neg c15] at H
       exact absurd H (by simp)
     ·rw [if_neg c14] at H
      exact absurd H (by simp)
    ·rw [if_neg c12] at H
     have c12b0 : ((l1_0.length : Int) == (wrap64 (t130 * t130))) = false := beq_eq_false_iff_ne.mpr c12
     have c12b1 : ((l1_0.length : Int) != (wrap64 (t130 * t130))) = true := bne_iff_ne.mpr c12
     obtain rfl := Option.some.inj H
     go_enter Try.func109, Try.ntmps109
     go_wp2_with (first | ((with_reducible refine qas (N := 4) rfl ?_); (try (refine qbh (by rfl) ?_; dsimp only)); refine qar ?hg (N := 4) ?hd (cs := #[.int .i64 a0_0, .int .i64 a0_1, .slice A0_2 l0_2.length c0_2]) (t := 34) ?hr ?_; (case hd => rfl); (case hg => rfl); (case hr => first | (go_simp; done) | (go_simp; rfl)); intro gb128 hg w34 hbox hb; have n0_ := qab.mk (qak (by repeat (first | (with_reducible first | exact HB.out | apply qad | apply qaa | apply qac) | exact HB.out)) hb); have n1_ := qab.mk (hbox); have n2_ := qab.mk ((by rw [hg]; exact (qal (by repeat (first | (with_reducible first | exact HB.out | apply qad | apply qaa | apply qac) | exact HB.out))) : w.heap.size ≤ gb128)); have n3_ := qab.mk ((by rw [hg]; exact (qal (by repeat (first | (with_reducible first | exact HB.out | apply qad | apply qaa | apply qac) | exact HB.out))) : w.heap.size ≤ gb128)); clear HB; have HB := n0_; have BK128 := n1_; have GW128 := n2_; have GE128 := n3_; clear n0_ n1_ n2_ n3_; clear hb hbox hg) | ((with_reducible refine qas (N := 5) rfl ?_); (try (refine qbh (by rfl) ?_; dsimp only)); refine qar ?hg (N := 5) ?hd (cs := #[.slice A1_0 l1_0.length c1_0]) (t := 36) ?hr ?_; (case hd => rfl); (case hg => rfl); (case hr => first | (go_simp; done) | (go_simp; rfl)); intro gb129 hg w35 hbox hb; have n0_ := qab.mk (qam (g := gb128) (o := .cells #[.int .i64 a0_0, .int .i64 a0_1, .slice A0_2 l0_2.length c0_2] 34 (0, 0)) (by (with_reducible repeat (first | refine qag ?_ _ | refine qaj ?_ | refine qaf ?_ _)); exact BK128.out) hb); have n1_ := qab.mk (qak (by repeat (first | (with_reducible first | exact HB.out | apply qad | apply qaa | apply qac | refine qae ?_ GE128.out) | exact HB.out)) hb); have n2_ := qab.mk (hbox); have n3_ := qab.mk ((by rw [hg]; exact (qal (by repeat (first | (with_reducible first | exact HB.out | apply qad | apply qaa | apply qac | refine qae ?_ GE128.out) | exact HB.out))) : w.heap.size ≤ gb129)); have n4_ := qab.mk ((by rw [hg]; exact (qal (by repeat (first | (with_reducible first | exact HB.out | apply qad | apply qaa | apply qac | refine qae ?_ GE128.out) | exact HB.out))) : w.heap.size ≤ gb129)); have n5_ := qab.mk ((by rw [hg]; exact Nat.ne_of_lt (qbo (g := gb128) (o := .cells #[.int .i64 a0_0, .int .i64 a0_1, .slice A0_2 l0_2.length c0_2] 34 (0, 0)) (by (with_reducible repeat (first | refine qag ?_ _ | refine qaj ?_ | refine qaf ?_ _)); exact BK128.out)) : gb128 ≠ gb129)); have n6_ := qab.mk ((by rw [hg]; exact Nat.ne_of_gt (qbo (g := gb128) (o := .cells #[.int .i64 a0_0, .int .i64 a0_1, .slice A0_2 l0_2.length c0_2] 34 (0, 0)) (by (with_reducible repeat (first | refine qag ?_ _ | refine qaj ?_ | refine qaf ?_ _)); exact BK128.out)) : gb129 ≠ gb128)); clear BK128; clear HB; have BK128 := n0_; have HB := n1_; have BK129 := n2_; have GW129 := n3_; have GE129 := n4_; have NB128_129 := n5_; have NB129_128 := n6_; clear n0_ n1_ n2_ n3_ n4_ n5_ n6_; clear hb hbox hg; have hnb36 := NB128_129.out; have hnc36 := NB129_128.out; have hcz37_0 : w35.cell? ⟨gb128, 0, none⟩ = some (.int .i64 a0_0) := (qai BK128.out 0).trans rfl; have hcz37_1 : w35.cell? ⟨gb128, 1, none⟩ = some (.int .i64 a0_1) := (qai BK128.out 1).trans rfl; have hcz37_2 : w35.cell? ⟨gb128, 2, none⟩ = some (.slice A0_2 l0_2.length c0_2) := (qai BK128.out 2).trans rfl; have hfz37_0 := qah BK128.out 0; have hfz37_1 := qah BK128.out 1; have hfz37_2 := qah BK128.out 2) | ((with_reducible refine qaq (f := 99) rfl ?_); refine qbe (some 12) rfl rfl Try.func99 (by kernel_rfl) rfl #[.agg #[.int .i64 a0_0, .int .i64 a0_1]] rfl (by (try simp only [List.map_toArray, List.map_cons, List.map_nil]); first | done | rfl | (simp only [List.length_drop, List.length_take]; rfl)) ?_; (with_reducible refine (impl_NodeCount.calls a0_0 a0_1 t130 _ A5.out).mono ?_); rintro e w38 ⟨rfl, hb⟩; refine ⟨_, rfl, ?_⟩; have n0_ := qab.mk (qam (g := gb128) (o := .cells #[.int .i64 a0_0, .int .i64 a0_1, .slice A0_2 l0_2.length c0_2] 34 (0, 0)) (by (with_reducible repeat (first | refine qag ?_ _ | refine qaj ?_ | refine qaf ?_ _)); exact BK128.out) hb); have n1_ := qab.mk (qam (g := gb129) (o := .cells #[.slice A1_0 l1_0.length c1_0] 36 (0, 0)) (by (with_reducible repeat (first | refine qag ?_ _ | refine qaj ?_ | refine qaf ?_ _)); exact BK129.out) hb); have n2_ := qab.mk (qak (by repeat (first | (with_reducible first | exact HB.out | apply qad | apply qaa | apply qac | refine qae ?_ GE128.out | refine qae ?_ GE129.out) | exact HB.out)) hb); clear BK128; clear BK129; clear HB; have BK128 := n0_; have BK129 := n1_; have HB := n2_; clear n0_ n1_ n2_; (try clear hb); (try clear hb2); (try clear hk); (try clear hi); have hcz39_0 : w38.cell? ⟨gb128, 0, none⟩ = some (.int .i64 a0_0) := (qai BK128.out 0).trans rfl; have hcz39_1 : w38.cell? ⟨gb128, 1, none⟩ = some (.int .i64 a0_1) := (qai BK128.out 1).trans rfl; have hcz39_2 : w38.cell? ⟨gb128, 2, none⟩ = some (.slice A0_2 l0_2.length c0_2) := (qai BK128.out 2).trans rfl; have hfz39_0 := qah BK128.out 0; have hfz39_1 := qah BK128.out 1; have hfz39_2 := qah BK128.out 2) | ((with_reducible refine qaq (f := 101) rfl ?_); refine qbe (some 14) rfl rfl Try.func101 (by kernel_rfl) rfl #[.agg #[.int .i64 a0_0, .int .i64 a0_1, .slice A0_2 l0_2.length c0_2]] rfl (by (try simp only [List.map_toArray, List.map_cons, List.map_nil]); first | done | rfl | (simp only [List.length_drop, List.length_take]; rfl)) ?_; (with_reducible refine (impl_MeshOk.calls k a0_0 a0_1 _ _ l0_2 true _ ?side1 ?side2 A6.out).mono ?_); (case side1 => repeat (first | exact (Kd.qbf HR0_2.out HB.out) | (with_reducible first | refine Kd.qaz ?_ _ | refine Kd.qay ?_ _ | refine Kd.qbd ?_))); (case side2 => exact HC0_2.out); rintro e w40 ⟨rfl, hb⟩; refine ⟨_, rfl, ?_⟩; have n0_ := qab.mk (qam (g := gb128) (o := .cells #[.int .i64 a0_0, .int .i64 a0_1, .slice A0_2 l0_2.length c0_2] 34 (0, 0)) (by (with_reducible repeat (first | refine qag ?_ _ | refine qaj ?_ | refine qaf ?_ _)); exact BK128.out) hb); have n1_ := qab.mk (qam (g := gb129) (o := .cells #[.slice A1_0 l1_0.length c1_0] 36 (0, 0)) (by (with_reducible repeat (first | refine qag ?_ _ | refine qaj ?_ | refine qaf ?_ _)); exact BK129.out) hb); have n2_ := qab.mk (qak (by repeat (first | (with_reducible first | exact HB.out | apply qad | apply qaa | apply qac | refine qae ?_ GE128.out | refine qae ?_ GE129.out) | exact HB.out)) hb); clear BK128; clear BK129; clear HB; have BK128 := n0_; have BK129 := n1_; have HB := n2_; clear n0_ n1_ n2_; (try clear hb); (try clear hb2); (try clear hk); (try clear hi)) | (go_at_call 98; (with_reducible refine (impl_inside.calls a2 0 (wrap64 (t130 - 1)) true _ A8.out).mono ?_); rintro e w' ⟨rfl, ⟨nd, rfl⟩⟩) | (go_at_call 98; (with_reducible refine (impl_inside.calls a3 0 (wrap64 (t130 - 1)) true _ A10.out).mono ?_); rintro e w' ⟨rfl, ⟨nd, rfl⟩⟩; have hcz41_0 : w40.cell? ⟨gb129, 0, none⟩ = some (.slice A1_0 l1_0.length c1_0) := (qai BK129.out 0).trans rfl; have hfz41_0 := qah BK129.out 0))
     go_ret
     exact ⟨by first | rfl | (simp [errW_none, errW_some] <;> rfl) | (simp [*, errW_none, errW_some] <;> rfl), by repeat (first | (with_reducible first | exact HB.out | apply qad | apply qaa | apply qac | refine qae ?_ GE128.out | refine qae ?_ GE129.out) | exact HB.out)⟩
   ·replace c11 := Bool.eq_false_iff.mpr c11
    subst c11
    have H1 := H
    rw [if_neg (show ¬ (false = true) by decide)] at H1
    clear H
    have H := H1
    clear H1
    obtain rfl := Option.some.inj H
    go_enter Try.func109, Try.ntmps109
    go_wp2_with (first | ((with_reducible refine qas (N := 4) rfl ?_); (try (refine qbh (by rfl) ?_; dsimp only)); refine qar ?hg (N := 4) ?hd (cs := #[.int .i64 a0_0, .int .i64 a0_1, .slice A0_2 l0_2.length c0_2]) (t := 34) ?hr ?_; (case hd => rfl); (case hg => rfl); (case hr => first | (go_simp; done) | (go_simp; rfl)); intro gb128 hg w42 hbox hb; have n0_ := qab.mk (qak (by repeat (first | (with_reducible first | exact HB.out | apply qad | apply qaa | apply qac) | exact HB.out)) hb); have n1_ := qab.mk (hbox); have n2_ := qab.mk ((by rw [hg]; exact (qal (by repeat (first | (with_reducible first | exact HB.out | apply qad | apply qaa | apply qac) | exact HB.out))) : w.heap.size ≤ gb128)); have n3_ := qab.mk ((by rw [hg]; exact (qal (by repeat (first | (with_reducible first | exact HB.out | apply qad | apply qaa | apply qac) | exact HB.out))) : w.heap.size ≤ gb128)); clear HB; have HB := n0_; have BK128 := n1_; have GW128 := n2_; have GE128 := n3_; clear n0_ n1_ n2_ n3_; clear hb hbox hg) | ((with_reducible refine qas (N := 5) rfl ?_); (try (refine qbh (by rfl) ?_; dsimp only)); refine qar ?hg (N := 5) ?hd (cs := #[.slice A1_0 l1_0.length c1_0]) (t := 36) ?hr ?_; (case hd => rfl); (case hg => rfl); (case hr => first | (go_simp; done) | (go_simp; rfl)); intro gb129 hg w43 hbox hb; have n0_ := qab.mk (qam (g := gb128) (o := .cells #[.int .i64 a0_0, .int .i64 a0_1, .slice A0_2 l0_2.length c0_2] 34 (0, 0)) (by (with_reducible repeat (first | refine qag ?_ _ | refine qaj ?_ | refine qaf ?_ _)); exact BK128.out) hb); have n1_ := qab.mk (qak (by repeat (first | (with_reducible first | exact HB.out | apply qad | apply qaa | apply qac | refine qae ?_ GE128.out) | exact HB.out)) hb); have n2_ := qab.mk (hbox); have n3_ := qab.mk ((by rw [hg]; exact (qal (by repeat (first | (with_reducible first | exact HB.out | apply qad | apply qaa | apply qac | refine qae ?_ GE128.out) | exact HB.out))) : w.heap.size ≤ gb129)); have n4_ := qab.mk ((by rw [hg]; exact (qal (by repeat (first | (with_reducible first | exact HB.out | apply qad | apply qaa | apply qac | refine qae ?_ GE128.out) | exact HB.out))) : w.heap.size ≤ gb129)); have n5_ := qab.mk ((by rw [hg]; exact Nat.ne_of_lt (qbo (g := gb128) (o := .cells #[.int .i64 a0_0, .int .i64 a0_1, .slice A0_2 l0_2.length c0_2] 34 (0, 0)) (by (with_reducible repeat (first | refine qag ?_ _ | refine qaj ?_ | refine qaf ?_ _)); exact BK128.out)) : gb128 ≠ gb129)); have n6_ := qab.mk ((by rw [hg]; exact Nat.ne_of_gt (qbo (g := gb128) (o := .cells #[.int .i64 a0_0, .int .i64 a0_1, .slice A0_2 l0_2.length c0_2] 34 (0, 0)) (by (with_reducible repeat (first | refine qag ?_ _ | refine qaj ?_ | refine qaf ?_ _)); exact BK128.out)) : gb129 ≠ gb128)); clear BK128; clear HB; have BK128 := n0_; have HB := n1_; have BK129 := n2_; have GW129 := n3_; have GE129 := n4_; have NB128_129 := n5_; have NB129_128 := n6_; clear n0_ n1_ n2_ n3_ n4_ n5_ n6_; clear hb hbox hg; have hnb44 := NB128_129.out; have hnc44 := NB129_128.out; have hcz45_0 : w43.cell? ⟨gb128, 0, none⟩ = some (.int .i64 a0_0) := (qai BK128.out 0).trans rfl; have hcz45_1 : w43.cell? ⟨gb128, 1, none⟩ = some (.int .i64 a0_1) := (qai BK128.out 1).trans rfl; have hcz45_2 : w43.cell? ⟨gb128, 2, none⟩ = some (.slice A0_2 l0_2.length c0_2) := (qai BK128.out 2).trans rfl; have hfz45_0 := qah BK128.out 0; have hfz45_1 := qah BK128.out 1; have hfz45_2 := qah BK128.out 2) | ((with_reducible refine qaq (f := 99) rfl ?_); refine qbe (some 12) rfl rfl Try.func99 (by kernel_rfl) rfl #[.agg #[.int .i64 a0_0, .int .i64 a0_1]] rfl (by (try simp only [List.map_toArray, List.map_cons, List.map_nil]); first | done | rfl | (simp only [List.length_drop, List.length_take]; rfl)) ?_; (with_reducible refine (impl_NodeCount.calls a0_0 a0_1 t130 _ A5.out).mono ?_); rintro e w46 ⟨rfl, hb⟩; refine ⟨_, rfl, ?_⟩; have n0_ := qab.mk (qam (g := gb128) (o := .cells #[.int .i64 a0_0, .int .i64 a0_1, .slice A0_2 l0_2.length c0_2] 34 (0, 0)) (by (with_reducible repeat (first | refine qag ?_ _ | refine qaj ?_ | refine qaf ?_ _)); exact BK128.out) hb); have n1_ := qab.mk (qam (g := gb129) (o := .cells #[.slice A1_0 l1_0.length c1_0] 36 (0, 0)) (by (with_reducible repeat (first | refine qag ?_ _ | refine qaj ?_ | refine qaf ?_ _)); exact BK129.out) hb); have n2_ := qab.mk (qak (by repeat (first | (with_reducible first | exact HB.out | apply qad | apply qaa | apply qac | refine qae ?_ GE128.out | refine qae ?_ GE129.out) | exact HB.out)) hb); clear BK128; clear BK129; clear HB; have BK128 := n0_; have BK129 := n1_; have HB := n2_; clear n0_ n1_ n2_; (try clear hb); (try clear hb2); (try clear hk); (try clear hi); have hcz47_0 : w46.cell? ⟨gb128, 0, none⟩ = some (.int .i64 a0_0) := (qai BK128.out 0).trans rfl; have hcz47_1 : w46.cell? ⟨gb128, 1, none⟩ = some (.int .i64 a0_1) := (qai BK128.out 1).trans rfl; have hcz47_2 : w46.cell? ⟨gb128, 2, none⟩ = some (.slice A0_2 l0_2.length c0_2) := (qai BK128.out 2).trans rfl; have hfz47_0 := qah BK128.out 0; have hfz47_1 := qah BK128.out 1; have hfz47_2 := qah BK128.out 2) | ((with_reducible refine qaq (f := 101) rfl ?_); refine qbe (some 14) rfl rfl Try.func101 (by kernel_rfl) rfl #[.agg #[.int .i64 a0_0, .int .i64 a0_1, .slice A0_2 l0_2.length c0_2]] rfl (by (try simp only [List.map_toArray, List.map_cons, List.map_nil]); first | done | rfl | (simp only [List.length_drop, List.length_take]; rfl)) ?_; (with_reducible refine (impl_MeshOk.calls k a0_0 a0_1 _ _ l0_2 true _ ?side1 ?side2 A6.out).mono ?_); (case side1 => repeat (first | exact (Kd.qbf HR0_2.out HB.out) | (with_reducible first | refine Kd.qaz ?_ _ | refine Kd.qay ?_ _ | refine Kd.qbd ?_))); (case side2 => exact HC0_2.out); rintro e w48 ⟨rfl, hb⟩; refine ⟨_, rfl, ?_⟩; have n0_ := qab.mk (qam (g := gb128) (o := .cells #[.int .i64 a0_0, .int .i64 a0_1, .slice A0_2 l0_2.length c0_2] 34 (0, 0)) (by (with_reducible repeat (first | refine qag ?_ _ | refine qaj ?_ | refine qaf ?_ _)); exact BK128.out) hb); have n1_ := qab.mk (qam (g := gb129) (o := .cells #[.slice A1_0 l1_0.length c1_0] 36 (0, 0)) (by (with_reducible repeat (first | refine qag ?_ _ | refine qaj ?_ | refine qaf ?_ _)); exact BK129.out) hb); have n2_ := qab.mk (qak (by repeat (first | (with_reducible first | exact HB.out | apply qad | apply qaa | apply qac | refine qae ?_ GE128.out | refine qae ?_ GE129.out) | exact HB.out)) hb); clear BK128; clear BK129; clear HB; have BK128 := n0_; have BK129 := n1_; have HB := n2_; clear n0_ n1_ n2_; (try clear hb); (try clear hb2); (try clear hk); (try clear hi)) | (go_at_call 98; (with_reducible refine (impl_inside.calls a2 0 (wrap64 (t130 - 1)) true _ A8.out).mono ?_); rintro e w' ⟨rfl, ⟨nd, rfl⟩⟩) | (go_at_call 98; (with_reducible refine (impl_inside.calls a3 0 (wrap64 (t130 - 1)) false _ A10.out).mono ?_); rintro e w' ⟨rfl, ⟨nd, rfl⟩⟩))
    go_ret
    exact ⟨by first | rfl | (simp [errW_none, errW_some] <;> rfl) | (simp [*, errW_none, errW_some] <;> rfl), by repeat (first | (with_reducible first | exact HB.out | apply qad | apply qaa | apply qac | refine qae ?_ GE128.out | refine qae ?_ GE129.out) | exact HB.out)⟩
  ·replace c9 := Bool.eq_false_iff.mpr c9
   subst c9
   have H1 := H
   rw [if_neg (show ¬ (false = true) by decide)] at H1
   clear H
   have H := H1
   clear H1
   obtain rfl := Option.some.inj H
   go_enter Try.func109, Try.ntmps109
   go_wp2_with (first | ((with_reducible refine qas (N := 4) rfl ?_); (try (refine qbh (by rfl) ?_; dsimp only)); refine qar ?hg (N := 4) ?hd (cs := #[.int .i64 a0_0, .int .i64 a0_1, .slice A0_2 l0_2.length c0_2]) (t := 34) ?hr ?_; (case hd => rfl); (case hg => rfl); (case hr => first | (go_simp; done) | (go_simp; rfl)); intro gb128 hg w49 hbox hb; have n0_ := qab.mk (qak (by repeat (first | (with_reducible first | exact HB.out | apply qad | apply qaa | apply qac) | exact HB.out)) hb); have n1_ := qab.mk (hbox); have n2_ := qab.mk ((by rw [hg]; exact (qal (by repeat (first | (with_reducible first | exact HB.out | apply qad | apply qaa | apply qac) | exact HB.out))) : w.heap.size ≤ gb128)); have n3_ := qab.mk ((by rw [hg]; exact (qal (by repeat (first | (with_reducible first | exact HB.out | apply qad | apply qaa | apply qac) | exact HB.out))) : w.heap.size ≤ gb128)); clear HB; have HB := n0_; have BK128 := n1_; have GW128 := n2_; have GE128 := n3_; clear n0_ n1_ n2_ n3_; clear hb hbox hg) | ((with_reducible refine qas (N := 5) rfl ?_); (try (refine qbh (by rfl) ?_; dsimp only)); refine qar ?hg (N := 5) ?hd (cs := #[.slice A1_0 l1_0.length c1_0]) (t := 36) ?hr ?_; (case hd => rfl); (case hg => rfl); (case hr => first | (go_simp; done) | (go_simp; rfl)); intro gb129 hg w50 hbox hb; have n0_ := qab.mk (qam (g := gb128) (o := .cells #[.int .i64 a0_0, .int .i64 a0_1, .slice A0_2 l0_2.length c0_2] 34 (0, 0)) (by (with_reducible repeat (first | refine qag ?_ _ | refine qaj ?_ | refine qaf ?_ _)); exact BK128.out) hb); have n1_ := qab.mk (qak (by repeat (first | (with_reducible first | exact HB.out | apply qad | apply qaa | apply qac | refine qae ?_ GE128.out) | exact HB.out)) hb); have n2_ := qab.mk (hbox); have n3_ := qab.mk ((by rw [hg]; exact (qal (by repeat (first | (with_reducible first | exact HB.out | apply qad | apply qaa | apply qac | refine qae ?_ GE128.out) | exact HB.out))) : w.heap.size ≤ gb129)); have n4_ := qab.mk ((by rw [hg]; exact (qal (by repeat (first | (with_reducible first | exact HB.out | apply qad | apply qaa | apply qac | refine qae ?_ GE128.out) | exact HB.out))) : w.heap.size ≤ gb129)); have n5_ := qab.mk ((by rw [hg]; exact Nat.ne_of_lt (qbo (g := gb128) (o := .cells #[.int .i64 a0_0, .int .i64 a0_1, .slice A0_2 l0_2.length c0_2] 34 (0, 0)) (by (with_reducible repeat (first | refine qag ?_ _ | refine qaj ?_ | refine qaf ?_ _)); exact BK128.out)) : gb128 ≠ gb129)); have n6_ := qab.mk ((by rw [hg]; exact Nat.ne_of_gt (qbo (g := gb128) (o := .cells #[.int .i64 a0_0, .int .i64 a0_1, .slice A0_2 l0_2.length c0_2] 34 (0, 0)) (by (with_reducible repeat (first | refine qag ?_ _ | refine qaj ?_ | refine qaf ?_ _)); exact BK128.out)) : gb129 ≠ gb128)); clear BK128; clear HB; have BK128 := n0_; have HB := n1_; have BK129 := n2_; have GW129 := n3_; have GE129 := n4_; have NB128_129 := n5_; have NB129_128 := n6_; clear n0_ n1_ n2_ n3_ n4_ n5_ n6_; clear hb hbox hg; have hnb51 := NB128_129.out; have hnc51 := NB129_128.out; have hcz52_0 : w50.cell? ⟨gb128, 0, none⟩ = some (.int .i64 a0_0) := (qai BK128.out 0).trans rfl; have hcz52_1 : w50.cell? ⟨gb128, 1, none⟩ = some (.int .i64 a0_1) := (qai BK128.out 1).trans rfl; have hcz52_2 : w50.cell? ⟨gb128, 2, none⟩ = some (.slice A0_2 l0_2.length c0_2) := (qai BK128.out 2).trans rfl; have hfz52_0 := qah BK128.out 0; have hfz52_1 := qah BK128.out 1; have hfz52_2 := qah BK128.out 2) | ((with_reducible refine qaq (f := 99) rfl ?_); refine qbe (some 12) rfl rfl Try.func99 (by kernel_rfl) rfl #[.agg #[.int .i64 a0_0, .int .i64 a0_1]] rfl (by (try simp only [List.map_toArray, List.map_cons, List.map_nil]); first | done | rfl | (simp only [List.length_drop, List.length_take]; rfl)) ?_; (with_reducible refine (impl_NodeCount.calls a0_0 a0_1 t130 _ A5.out).mono ?_); rintro e w53 ⟨rfl, hb⟩; refine ⟨_, rfl, ?_⟩; have n0_ := qab.mk (qam (g := gb128) (o := .cells #[.int .i64 a0_0, .int .i64 a0_1, .slice A0_2 l0_2.length c0_2] 34 (0, 0)) (by (with_reducible repeat (first | refine qag ?_ _ | refine qaj ?_ | refine qaf ?_ _)); exact BK128.out) hb); have n1_ := qab.mk (qam (g := gb129) (o := .cells #[.slice A1_0 l1_0.length c1_0] 36 (0, 0)) (by (with_reducible repeat (first | refine qag ?_ _ | refine qaj ?_ | refine qaf ?_ _)); exact BK129.out) hb); have n2_ := qab.mk (qak (by repeat (first | (with_reducible first | exact HB.out | apply qad | apply qaa | apply qac | refine qae ?_ GE128.out | refine qae ?_ GE129.out) | exact HB.out)) hb); clear BK128; clear BK129; clear HB; have BK128 := n0_; have BK129 := n1_; have HB := n2_; clear n0_ n1_ n2_; (try clear hb); (try clear hb2); (try clear hk); (try clear hi); have hcz54_0 : w53.cell? ⟨gb128, 0, none⟩ = some (.int .i64 a0_0) := (qai BK128.out 0).trans rfl; have hcz54_1 : w53.cell? ⟨gb128, 1, none⟩ = some (.int .i64 a0_1) := (qai BK128.out 1).trans rfl; have hcz54_2 : w53.cell? ⟨gb128, 2, none⟩ = some (.slice A0_2 l0_2.length c0_2) := (qai BK128.out 2).trans rfl; have hfz54_0 := qah BK128.out 0; have hfz54_1 := qah BK128.out 1; have hfz54_2 := qah BK128.out 2) | ((with_reducible refine qaq (f := 101) rfl ?_); refine qbe (some 14) rfl rfl Try.func101 (by kernel_rfl) rfl #[.agg #[.int .i64 a0_0, .int .i64 a0_1, .slice A0_2 l0_2.length c0_2]] rfl (by (try simp only [List.map_toArray, List.map_cons, List.map_nil]); first | done | rfl | (simp only [List.length_drop, List.length_take]; rfl)) ?_; (with_reducible refine (impl_MeshOk.calls k a0_0 a0_1 _ _ l0_2 true _ ?side1 ?side2 A6.out).mono ?_); (case side1 => repeat (first | exact (Kd.qbf HR0_2.out HB.out) | (with_reducible first | refine Kd.qaz ?_ _ | refine Kd.qay ?_ _ | refine Kd.qbd ?_))); (case side2 => exact HC0_2.out); rintro e w55 ⟨rfl, hb⟩; refine ⟨_, rfl, ?_⟩; have n0_ := qab.mk (qam (g := gb128) (o := .cells #[.int .i64 a0_0, .int .i64 a0_1, .slice A0_2 l0_2.length c0_2] 34 (0, 0)) (by (with_reducible repeat (first | refine qag ?_ _ | refine qaj ?_ | refine qaf ?_ _)); exact BK128.out) hb); have n1_ := qab.mk (qam (g := gb129) (o := .cells #[.slice A1_0 l1_0.length c1_0] 36 (0, 0)) (by (with_reducible repeat (first | refine qag ?_ _ | refine qaj ?_ | refine qaf ?_ _)); exact BK129.out) hb); have n2_ := qab.mk (qak (by repeat (first | (with_reducible first | exact HB.out | apply qad | apply qaa | apply qac | refine qae ?_ GE128.out | refine qae ?_ GE129.out) | exact HB.out)) hb); clear BK128; clear BK129; clear HB; have BK128 := n0_; have BK129 := n1_; have HB := n2_; clear n0_ n1_ n2_; (try clear hb); (try clear hb2); (try clear hk); (try clear hi)) | (go_at_call 98; (with_reducible refine (impl_inside.calls a2 0 (wrap64 (t130 - 1)) false _ A8.out).mono ?_); rintro e w' ⟨rfl, ⟨nd, rfl⟩⟩))
   go_ret
   exact ⟨by first | rfl | (simp [errW_none, errW_some] <;> rfl) | (simp [*, errW_none, errW_some] <;> rfl), by repeat (first | (with_reducible first | exact HB.out | apply qad | apply qaa | apply qac | refine qae ?_ GE128.out | refine qae ?_ GE129.out) | exact HB.out)⟩
 ·replace c7 := Bool.eq_false_iff.mpr c7
  subst c7
  have H1 := H
  rw [if_neg (show ¬ (false = true) by decide)] at H1
  clear H
  have H := H1
  clear H1
  obtain rfl := Option.some.inj H
  go_enter Try.func109, Try.ntmps109
  go_wp2_with (first | ((with_reducible refine qas (N := 4) rfl ?_); (try (refine qbh (by rfl) ?_; dsimp only)); refine qar ?hg (N := 4) ?hd (cs := #[.int .i64 a0_0, .int .i64 a0_1, .slice A0_2 l0_2.length c0_2]) (t := 34) ?hr ?_; (case hd => rfl); (case hg => rfl); (case hr => first | (go_simp; done) | (go_simp; rfl)); intro gb128 hg w56 hbox hb; have n0_ := qab.mk (qak (by repeat (first | (with_reducible first | exact HB.out | apply qad | apply qaa | apply qac) | exact HB.out)) hb); have n1_ := qab.mk (hbox); have n2_ := qab.mk ((by rw [hg]; exact (qal (by repeat (first | (with_reducible first | exact HB.out | apply qad | apply qaa | apply qac) | exact HB.out))) : w.heap.size ≤ gb128)); have n3_ := qab.mk ((by rw [hg]; exact (qal (by repeat (first | (with_reducible first | exact HB.out | apply qad | apply qaa | apply qac) | exact HB.out))) : w.heap.size ≤ gb128)); clear HB; have HB := n0_; have BK128 := n1_; have GW128 := n2_; have GE128 := n3_; clear n0_ n1_ n2_ n3_; clear hb hbox hg) | ((with_reducible refine qas (N := 5) rfl ?_); (try (refine qbh (by rfl) ?_; dsimp only)); refine qar ?hg (N := 5) ?hd (cs := #[.slice A1_0 l1_0.length c1_0]) (t := 36) ?hr ?_; (case hd => rfl); (case hg => rfl); (case hr => first | (go_simp; done) | (go_simp; rfl)); intro gb129 hg w57 hbox hb; have n0_ := qab.mk (qam (g := gb128) (o := .cells #[.int .i64 a0_0, .int .i64 a0_1, .slice A0_2 l0_2.length c0_2] 34 (0, 0)) (by (with_reducible repeat (first | refine qag ?_ _ | refine qaj ?_ | refine qaf ?_ _)); exact BK128.out) hb); have n1_ := qab.mk (qak (by repeat (first | (with_reducible first | exact HB.out | apply qad | apply qaa | apply qac | refine qae ?_ GE128.out) | exact HB.out)) hb); have n2_ := qab.mk (hbox); have n3_ := qab.mk ((by rw [hg]; exact (qal (by repeat (first | (with_reducible first | exact HB.out | apply qad | apply qaa | apply qac | refine qae ?_ GE128.out) | exact HB.out))) : w.heap.size ≤ gb129)); have n4_ := qab.mk ((by rw [hg]; exact (qal (by repeat (first | (with_reducible first | exact HB.out | apply qad | apply qaa | apply qac | refine qae ?_ GE128.out) | exact HB.out))) : w.heap.size ≤ gb129)); have n5_ := qab.mk ((by rw [hg]; exact Nat.ne_of_lt (qbo (g := gb128) (o := .cells #[.int .i64 a0_0, .int .i64 a0_1, .slice A0_2 l0_2.length c0_2] 34 (0, 0)) (by (with_reducible repeat (first | refine qag ?_ _ | refine qaj ?_ | refine qaf ?_ _)); exact BK128.out)) : gb128 ≠ gb129)); have n6_ := qab.mk ((by rw [hg]; exact Nat.ne_of_gt (qbo (g := gb128) (o := .cells #[.int .i64 a0_0, .int .i64 a0_1, .slice A0_2 l0_2.length c0_2] 34 (0, 0)) (by (with_reducible repeat (first | refine qag ?_ _ | refine qaj ?_ | refine qaf ?_ _)); exact BK128.out)) : gb129 ≠ gb128)); clear BK128; clear HB; have BK128 := n0_; have HB := n1_; have BK129 := n2_; have GW129 := n3_; have GE129 := n4_; have NB128_129 := n5_; have NB129_128 := n6_; clear n0_ n1_ n2_ n3_ n4_ n5_ n6_; clear hb hbox hg; have hnb58 := NB128_129.out; have hnc58 := NB129_128.out; have hcz59_0 : w57.cell? ⟨gb128, 0, none⟩ = some (.int .i64 a0_0) := (qai BK128.out 0).trans rfl; have hcz59_1 : w57.cell? ⟨gb128, 1, none⟩ = some (.int .i64 a0_1) := (qai BK128.out 1).trans rfl; have hcz59_2 : w57.cell? ⟨gb128, 2, none⟩ = some (.slice A0_2 l0_2.length c0_2) := (qai BK128.out 2).trans rfl; have hfz59_0 := qah BK128.out 0; have hfz59_1 := qah BK128.out 1; have hfz59_2 := qah BK128.out 2) | ((with_reducible refine qaq (f := 99) rfl ?_); refine qbe (some 12) rfl rfl Try.func99 (by kernel_rfl) rfl #[.agg #[.int .i64 a0_0, .int .i64 a0_1]] rfl (by (try simp only [List.map_toArray, List.map_cons, List.map_nil]); first | done | rfl | (simp only [List.length_drop, List.length_take]; rfl)) ?_; (with_reducible refine (impl_NodeCount.calls a0_0 a0_1 t130 _ A5.out).mono ?_); rintro e w60 ⟨rfl, hb⟩; refine ⟨_, rfl, ?_⟩; have n0_ := qab.mk (qam (g := gb128) (o := .cells #[.int .i64 a0_0, .int .i64 a0_1, .slice A0_2 l0_2.length c0_2] 34 (0, 0)) (by (with_reducible repeat (first | refine qag ?_ _ | refine qaj ?_ | refine qaf ?_ _)); exact BK128.out) hb); have n1_ := qab.mk (qam (g := gb129) (o := .cells #[.slice A1_0 l1_0.length c1_0] 36 (0, 0)) (by (with_reducible repeat (first | refine qag ?_ _ | refine qaj ?_ | refine qaf ?_ _)); exact BK129.out) hb); have n2_ := qab.mk (qak (by repeat (first | (with_reducible first | exact HB.out | apply qad | apply qaa | apply qac | refine qae ?_ GE128.out | refine qae ?_ GE129.out) | exact HB.out)) hb); clear BK128; clear BK129; clear HB; have BK128 := n0_; have BK129 := n1_; have HB := n2_; clear n0_ n1_ n2_; (try clear hb); (try clear hb2); (try clear hk); (try clear hi); have hcz61_0 : w60.cell? ⟨gb128, 0, none⟩ = some (.int .i64 a0_0) := (qai BK128.out 0).trans rfl; have hcz61_1 : w60.cell? ⟨gb128, 1, none⟩ = some (.int .i64 a0_1) := (qai BK128.out 1).trans rfl; have hcz61_2 : w60.cell? ⟨gb128, 2, none⟩ = some (.slice A0_2 l0_2.length c0_2) := (qai BK128.out 2).trans rfl; have hfz61_0 := qah BK128.out 0; have hfz61_1 := qah BK128.out 1; have hfz61_2 := qah BK128.out 2) | ((with_reducible refine qaq (f := 101) rfl ?_); refine qbe (some 14) rfl rfl Try.func101 (by kernel_rfl) rfl #[.agg #[.int .i64 a0_0, .int .i64 a0_1, .slice A0_2 l0_2.length c0_2]] rfl (by (try simp only [List.map_toArray, List.map_cons, List.map_nil]); first | done | rfl | (simp only [List.length_drop, List.length_take]; rfl)) ?_; (with_reducible refine (impl_MeshOk.calls k a0_0 a0_1 _ _ l0_2 false _ ?side1 ?side2 A6.out).mono ?_); (case side1 => repeat (first | exact (Kd.qbf HR0_2.out HB.out) | (with_reducible first | refine Kd.qaz ?_ _ | refine Kd.qay ?_ _ | refine Kd.qbd ?_))); (case side2 => exact HC0_2.out); rintro e w62 ⟨rfl, hb⟩; refine ⟨_, rfl, ?_⟩; have n0_ := qab.mk (qam (g := gb128) (o := .cells #[.int .i64 a0_0, .int .i64 a0_1, .slice A0_2 l0_2.length c0_2] 34 (0, 0)) (by (with_reducible repeat (first | refine qag ?_ _ | refine qaj ?_ | refine qaf ?_ _)); exact BK128.out) hb); have n1_ := qab.mk (qam (g := gb129) (o := .cells #[.slice A1_0 l1_0.length c1_0] 36 (0, 0)) (by (with_reducible repeat (first | refine qag ?_ _ | refine qaj ?_ | refine qaf ?_ _)); exact BK129.out) hb); have n2_ := qab.mk (qak (by repeat (first | (with_reducible first | exact HB.out | apply qad | apply qaa | apply qac | refine qae ?_ GE128.out | refine qae ?_ GE129.out) | exact HB.out)) hb); clear BK128; clear BK129; clear HB; have BK128 := n0_; have BK129 := n1_; have HB := n2_; clear n0_ n1_ n2_; (try clear hb); (try clear hb2); (try clear hk); (try clear hi)))
  go_ret
  exact ⟨by first | rfl | (simp [errW_none, errW_some] <;> rfl) | (simp [*, errW_none, errW_some] <;> rfl), by repeat (first | (with_reducible first | exact HB.out | apply qad | apply qaa | apply qac | refine qae ?_ GE128.out | refine qae ?_ GE129.out) | exact HB.out)⟩


/-! ### slices_Index_int_int: function 126 -/
def slices_Index_int_int.l0 : Nat → List Int → Int → Int → Int → Option (Int)
 | 0, _, _, _, _ => none
 | k + 1, x0, x1, x7, x8 => if x8 < x7 then (if 0 ≤ x8 then (if x8 < (x0.length : Int) then (if x1 = (rd x0 x8) then (some x8) else (slices_Index_int_int.l0 k x0 x1 x7 (wrap64 (x8 + 1)))) else (none)) else (none)) else (some (-1))
def slices_Index_int_int.f (k : Nat) (l0 : List Int) (a1 : Int) : Option (Int) := slices_Index_int_int.l0 k l0 a1 (l0.length : Int) 0
theorem slices_Index_int_int.mono_l : ∀ k, (∀ y0 y1 y2 y3, LeO (slices_Index_int_int.l0 k y0 y1 y2 y3) (slices_Index_int_int.l0 (k + 1) y0 y1 y2 y3))
 | 0 => fun _ _ _ _ r h => by simp [slices_Index_int_int.l0] at h
 | k + 1 => by
  have ih0 := slices_Index_int_int.mono_l k
  ·intro y0 y1 y2 y3
   unfold slices_Index_int_int.l0
   repeat' first
   | (with_reducible exact ih0 _ _ _ _)
   | (with_reducible exact LeO.refl _)
   | (with_reducible exact LeO.none _)
   | (with_reducible refine LeO.ite ?_ ?_)
   | (with_reducible refine LeO.bind ?_ (fun _ => ?_))
   | exact ih0 _ _ _ _
   | exact LeO.none _
   | refine LeO.ite ?_ ?_
   | refine LeO.bind ?_ (fun _ => ?_)
theorem slices_Index_int_int.mono : ∀ a0 a1 k, LeO (slices_Index_int_int.f k a0 a1) (slices_Index_int_int.f (k + 1) a0 a1) := by
 intro a0 a1 k
 have ih0 := slices_Index_int_int.mono_l k
 unfold slices_Index_int_int.f
 repeat' first
   | (with_reducible exact ih0 _ _ _ _)
   | (with_reducible exact LeO.refl _)
   | (with_reducible exact LeO.none _)
   | (with_reducible refine LeO.ite ?_ ?_)
   | (with_reducible refine LeO.bind ?_ (fun _ => ?_))
   | exact ih0 _ _ _ _
   | exact LeO.none _
   | refine LeO.ite ?_ ?_
   | refine LeO.bind ?_ (fun _ => ?_)
set_option maxHeartbeats 8000000 in
set_option maxRecDepth 100000 in
theorem slices_Index_int_int.calls (k : Nat) (A0 : Option Addr) (c0 : Nat) (l0 : List Int) (a1 : Int) (r : Int) (w : World) (hr0 : Kd.C (Kd.int .i64) w A0 l0.length l0) (hc0 : l0.length ≤ c0) (h : slices_Index_int_int.f k l0 a1 = some r) :
  Calls Try.prog 126 #[.slice A0 l0.length c0, .int .i64 a1] w fun e w' => e = .returned (.int .i64 r) ∧ Drawn0 w w' := by
 have HR0 := qab.mk hr0
 have HC0 := qab.mk hc0
 clear hr0 hc0
 have H : (slices_Index_int_int.l0 k l0 a1 (l0.length : Int) 0) = some r := h
 clear h
 have H' := qab.mk H
 clear H
 go_enter Try.func126, Try.ntmps126
 go_wp2
 go_loopg [8] k (fun kq v8 w' => ∃ (x8_1 : Int), v8 = .int .i64 x8_1 ∧ qab (slices_Index_int_int.l0 kq l0 a1 (l0.length : Int) x8_1 = some r) ∧ qab (kq ≤ k) ∧ Drawn0 w w')
 case atStart => exact ⟨(0), (by first | rfl | (simp; done) | (simp [*]; done)), H', ⟨Nat.le_refl _⟩, by repeat (first | exact Drawn0.refl _ | apply Drawn0.step)⟩
 case round =>
  clear H'
  try clear c1
  try clear p2
  obtain ⟨x8_1, rfl, HA, HK1, ⟨m1, rfl⟩⟩ := hrel
  cases gk with
  | zero => exact absurd HA.out (by simp [slices_Index_int_int.l0])
  | succ k1 =>
   have H := HA.out
   clear HA
   simp only [slices_Index_int_int.l0] at H
   by_cases c3 : x8_1 < (l0.length : Int)
   ·rw [if_pos c3] at H
    have c3b0 : decide (x8_1 < (l0.length : Int)) = true := decide_eq_true c3
    clear c3
    by_cases c4 : 0 ≤ x8_1
    ·rw [if_pos c4] at H
     have c4b0 : decide (0 ≤ x8_1) = true := decide_eq_true c4
     clear c4
     by_cases c5 : x8_1 < (l0.length : Int)
     ·rw [if_pos c5] at H
      have c5b0 : decide (x8_1 < (l0.length : Int)) = true := decide_eq_true c5
      clear c5
      by_cases c6 : a1 = (rd l0 x8_1)
      ·rw [if_pos c6] at H
       have c6b0 : (a1 == (rd l0 x8_1)) = true := beq_iff_eq.mpr c6
       have c6b1 : (a1 != (rd l0 x8_1)) = false := bne_eq_false_iff_eq.mpr c6
       clear c6
       obtain rfl := Option.some.inj H
       have p137 : 0 ≤ (x8_1 : Int) := of_decide_eq_true (by first | (with_reducible assumption) | assumption)
       have q137 : x8_1 < (l0.length : Int) := of_decide_eq_true (by first | (with_reducible assumption) | assumption)
       obtain ⟨ad137, e137, hx137_0⟩ := Kd.qcc HR0.out x8_1 p137 q137
       cases e137
       replace p137 := eq_true p137
       replace q137 := eq_true q137
       go_wp2
       go_ret
       exact ⟨by first | rfl | (simp; done) | (simp [*]; done), by repeat (first | exact Drawn0.refl _ | apply Drawn0.step)⟩
      ·rw [if_neg c6] at H
       have c6b0 : (a1 == (rd l0 x8_1)) = false := beq_eq_false_iff_ne.mpr c6
       have c6b1 : (a1 != (rd l0 x8_1)) = true := bne_iff_ne.mpr c6
       have H' := qab.mk H
       clear H
       have p137 : 0 ≤ (x8_1 : Int) := of_decide_eq_true (by first | (with_reducible assumption) | assumption)
       have q137 : x8_1 < (l0.length : Int) := of_decide_eq_true (by first | (with_reducible assumption) | assumption)
       obtain ⟨ad137, e137, hx137_0⟩ := Kd.qcc HR0.out x8_1 p137 q137
       cases e137
       replace p137 := eq_true p137
       replace q137 := eq_true q137
       go_wp2
       go_roundg k1
       case measure => have := HK1.out; omega
       case rel => exact ⟨(wrap64 (x8_1 + 1)), (by first | rfl | (simp; done) | (simp [*]; done)), H', ⟨by have := HK1.out; omega⟩, by repeat (first | exact Drawn0.refl _ | apply Drawn0.step)⟩
     ·rw [if_neg c5] at H
      exact absurd H (by simp)
    ·rw [if_neg c4] at H
     exact absurd H (by simp)
   ·rw [if_neg c3] at H
    have c3b0 : decide (x8_1 < (l0.length : Int)) = false := decide_eq_false c3
    clear c3
    obtain rfl := Option.some.inj H
    go_wp2
    go_ret
    exact ⟨by first | rfl | (simp; done) | (simp [*]; done), by repeat (first | exact Drawn0.refl _ | apply Drawn0.step)⟩


/-! ### slices_Contains_int_int: function 77 -/
def slices_Contains_int_int.f (k : Nat) (l0 : List Int) (a1 : Int) : Option (Bool) := (slices_Index_int_int.f k l0 a1).bind fun t138 => (some (decide (t138 ≥ 0)))
theorem slices_Contains_int_int.mono : ∀ a0 a1 k, LeO (slices_Contains_int_int.f k a0 a1) (slices_Contains_int_int.f (k + 1) a0 a1) := by
 intro a0 a1 k
 unfold slices_Contains_int_int.f
 repeat' first
   | (with_reducible exact slices_Index_int_int.mono _ _ _)
   | (with_reducible exact LeO.refl _)
   | (with_reducible exact LeO.none _)
   | (with_reducible refine LeO.ite ?_ ?_)
   | (with_reducible refine LeO.bind ?_ (fun _ => ?_))
   | exact slices_Index_int_int.mono _ _ _
   | exact LeO.none _
   | refine LeO.ite ?_ ?_
   | refine LeO.bind ?_ (fun _ => ?_)
set_option maxHeartbeats 8000000 in
set_option maxRecDepth 100000 in
theorem slices_Contains_int_int.calls (k : Nat) (A0 : Option Addr) (c0 : Nat) (l0 : List Int) (a1 : Int) (r : Bool) (w : World) (hr0 : Kd.C (Kd.int .i64) w A0 l0.length l0) (hc0 : l0.length ≤ c0) (h : slices_Contains_int_int.f k l0 a1 = some r) :
  Calls Try.prog 77 #[.slice A0 l0.length c0, .int .i64 a1] w fun e w' => e = .returned (.bool r) ∧ Drawn0 w w' := by
 have HR0 := qab.mk hr0
 have HC0 := qab.mk hc0
 clear hr0 hc0
 have H : ((slices_Index_int_int.f k l0 a1).bind fun t138 => (some (decide (t138 ≥ 0)))) = some r := h
 clear h
 replace H := Option.bind_eq_some_iff.mp H
 obtain ⟨t138, A30, H⟩ := H
 try dsimp only at H
 have A3 := qab.mk A30
 clear A30
 obtain rfl := Option.some.inj H
 go_enter Try.func77, Try.ntmps77
 go_wp2_with (first | ((with_reducible refine qaq (f := 126) rfl ?_); refine qbe (some 7) rfl rfl Try.func126 (by kernel_rfl) rfl #[.slice A0 l0.length c0, .int .i64 a1] rfl (by (try simp only [List.map_toArray, List.map_cons, List.map_nil]); first | done | rfl | (simp only [List.length_drop, List.length_take]; rfl)) ?_; (with_reducible refine (slices_Index_int_int.calls k _ _ l0 a1 t138 _ ?side1 ?side2 A3.out).mono ?_); (case side1 => repeat (first | exact HR0.out | (with_reducible first | refine Kd.qaz ?_ _ | refine Kd.qay ?_ _ | refine Kd.qbd ?_))); (case side2 => exact HC0.out); rintro e w' ⟨rfl, ⟨nd, rfl⟩⟩; refine ⟨_, rfl, ?_⟩))
 go_ret
 exact ⟨by first | rfl | (simp; done) | (simp [*]; done), by repeat (first | exact Drawn0.refl _ | apply Drawn0.step)⟩


/-! ### impl_HasChannel: function 110 -/
def impl_HasChannel.f (k : Nat) (a0_0 : Int) (a0_1 : Int) (l0_2 : List Int) (a1 : Int) : Option (Bool) := (impl_MeshOk.f k a0_0 a0_1 l0_2).bind fun t140 => (if t140 = true then ((impl_leads.f a0_0 a0_1 a1).bind fun t141 => (if t141 = true then ((slices_Contains_int_int.f k l0_2 a1).bind fun t142 => (some (!t142))) else (some false))) else (some false))
theorem impl_HasChannel.mono : ∀ a0 a1 a2 a3 k, LeO (impl_HasChannel.f k a0 a1 a2 a3) (impl_HasChannel.f (k + 1) a0 a1 a2 a3) := by
 intro a0 a1 a2 a3 k
 unfold impl_HasChannel.f
 repeat' first
   | (with_reducible exact impl_MeshOk.mono _ _ _ _)
   | (with_reducible exact slices_Contains_int_int.mono _ _ _)
   | (with_reducible exact LeO.refl _)
   | (with_reducible exact LeO.none _)
   | (with_reducible refine LeO.ite ?_ ?_)
   | (with_reducible refine LeO.bind ?_ (fun _ => ?_))
   | exact impl_MeshOk.mono _ _ _ _
   | exact slices_Contains_int_int.mono _ _ _
   | exact LeO.none _
   | refine LeO.ite ?_ ?_
   | refine LeO.bind ?_ (fun _ => ?_)
set_option maxHeartbeats 8000000 in
set_option maxRecDepth 100000 in
theorem impl_HasChannel.calls (k : Nat) (a0_0 : Int) (a0_1 : Int) (A0_2 : Option Addr) (c0_2 : Nat) (l0_2 : List Int) (a1 : Int) (r : Bool) (w : World) (hr0_2 : Kd.C (Kd.int .i64) w A0_2 l0_2.length l0_2) (hc0_2 : l0_2.length ≤ c0_2) (h : impl_HasChannel.f k a0_0 a0_1 l0_2 a1 = some r) :
  Calls Try.prog 110 #[.agg #[.int .i64 a0_0, .int .i64 a0_1, .slice A0_2 l0_2.length c0_2], .int .i64 a1] w fun e w' => e = .returned (.bool r) ∧ Below w.heap.size w w' := by
 have hu34 := Try.underlying34
 have hu32 := Try.underlying32
 have HR0_2 := qab.mk hr0_2
 have HC0_2 := qab.mk hc0_2
 clear hr0_2 hc0_2
 have HB := qab.mk (Below.refl w.heap.size w)
 have H : ((impl_MeshOk.f k a0_0 a0_1 l0_2).bind fun t140 => (if t140 = true then ((impl_leads.f a0_0 a0_1 a1).bind fun t141 => (if t141 = true then ((slices_Contains_int_int.f k l0_2 a1).bind fun t142 => (some (!t142))) else (some false))) else (some false))) = some r := h
 clear h
 replace H := Option.bind_eq_some_iff.mp H
 obtain ⟨t140, A30, H⟩ := H
 try dsimp only at H
 have A3 := qab.mk A30
 clear A30
 by_cases c4 : t140 = true
 ·subst c4
  have H1 := H
  rw [if_pos rfl] at H1
  clear H
  have H := H1
  clear H1
  replace H := Option.bind_eq_some_iff.mp H
  obtain ⟨t141, A50, H⟩ := H
  try dsimp only at H
  have A5 := qab.mk A50
  clear A50
  by_cases c6 : t141 = true
  ·subst c6
   have H1 := H
   rw [if_pos rfl] at H1
   clear H
   have H := H1
   clear H1
   replace H := Option.bind_eq_some_iff.mp H
   obtain ⟨t142, A70, H⟩ := H
   try dsimp only at H
   have A7 := qab.mk A70
   clear A70
   obtain rfl := Option.some.inj H
   go_enter Try.func110, Try.ntmps110
   go_wp2_with (first | ((with_reducible refine qas (N := 2) rfl ?_); refine qar ?hg (N := 2) ?hd (cs := #[.int .i64 a0_0, .int .i64 a0_1, .slice A0_2 l0_2.length c0_2]) (t := 34) ?hr ?_; (case hd => rfl); (case hg => rfl); (case hr => first | (go_simp; done) | (go_simp; rfl)); intro gb139 hg w8 hbox hb; have n0_ := qab.mk (qak (by repeat (first | (with_reducible first | exact HB.out | apply qad | apply qaa | apply qac) | exact HB.out)) hb); have n1_ := qab.mk (hbox); have n2_ := qab.mk ((by rw [hg]; exact (qal (by repeat (first | (with_reducible first | exact HB.out | apply qad | apply qaa | apply qac) | exact HB.out))) : w.heap.size ≤ gb139)); have n3_ := qab.mk ((by rw [hg]; exact (qal (by repeat (first | (with_reducible first | exact HB.out | apply qad | apply qaa | apply qac) | exact HB.out))) : w.heap.size ≤ gb139)); clear HB; have HB := n0_; have BK139 := n1_; have GW139 := n2_; have GE139 := n3_; clear n0_ n1_ n2_ n3_; clear hb hbox hg; have hcz9_0 : w8.cell? ⟨gb139, 0, none⟩ = some (.int .i64 a0_0) := (qai BK139.out 0).trans rfl; have hcz9_1 : w8.cell? ⟨gb139, 1, none⟩ = some (.int .i64 a0_1) := (qai BK139.out 1).trans rfl; have hcz9_2 : w8.cell? ⟨gb139, 2, none⟩ = some (.slice A0_2 l0_2.length c0_2) := (qai BK139.out 2).trans rfl; have hfz9_0 := qah BK139.out 0; have hfz9_1 := qah BK139.out 1; have hfz9_2 := qah BK139.out 2) | ((with_reducible refine qaq (f := 101) rfl ?_); refine qbe (some 6) rfl rfl Try.func101 (by kernel_rfl) rfl #[.agg #[.int .i64 a0_0, .int .i64 a0_1, .slice A0_2 l0_2.length c0_2]] rfl (by (try simp only [List.map_toArray, List.map_cons, List.map_nil]); first | done | rfl | (simp only [List.length_drop, List.length_take]; rfl)) ?_; (with_reducible refine (impl_MeshOk.calls k a0_0 a0_1 _ _ l0_2 true _ ?side1 ?side2 A3.out).mono ?_); (case side1 => repeat (first | exact (Kd.qbf HR0_2.out HB.out) | (with_reducible first | refine Kd.qaz ?_ _ | refine Kd.qay ?_ _ | refine Kd.qbd ?_))); (case side2 => exact HC0_2.out); rintro e w10 ⟨rfl, hb⟩; refine ⟨_, rfl, ?_⟩; have n0_ := qab.mk (qam (g := gb139) (o := .cells #[.int .i64 a0_0, .int .i64 a0_1, .slice A0_2 l0_2.length c0_2] 34 (0, 0)) (by (with_reducible repeat (first | refine qag ?_ _ | refine qaj ?_ | refine qaf ?_ _)); exact BK139.out) hb); have n1_ := qab.mk (qak (by repeat (first | (with_reducible first | exact HB.out | apply qad | apply qaa | apply qac | refine qae ?_ GE139.out) | exact HB.out)) hb); clear BK139; clear HB; have BK139 := n0_; have HB := n1_; clear n0_ n1_; (try clear hb); (try clear hb2); (try clear hk); (try clear hi); have hcz11_0 : w10.cell? ⟨gb139, 0, none⟩ = some (.int .i64 a0_0) := (qai BK139.out 0).trans rfl; have hcz11_1 : w10.cell? ⟨gb139, 1, none⟩ = some (.int .i64 a0_1) := (qai BK139.out 1).trans rfl; have hcz11_2 : w10.cell? ⟨gb139, 2, none⟩ = some (.slice A0_2 l0_2.length c0_2) := (qai BK139.out 2).trans rfl; have hfz11_0 := qah BK139.out 0; have hfz11_1 := qah BK139.out 1; have hfz11_2 := qah BK139.out 2) | (go_at_call 142; (with_reducible refine (impl_leads.calls a0_0 a0_1 a1 true _ A5.out).mono ?_); rintro e w12 ⟨rfl, hb⟩; have n0_ := qab.mk (qam (g := gb139) (o := .cells #[.int .i64 a0_0, .int .i64 a0_1, .slice A0_2 l0_2.length c0_2] 34 (0, 0)) (by (with_reducible repeat (first | refine qag ?_ _ | refine qaj ?_ | refine qaf ?_ _)); exact BK139.out) hb); have n1_ := qab.mk (qak (by repeat (first | (with_reducible first | exact HB.out | apply qad | apply qaa | apply qac | refine qae ?_ GE139.out) | exact HB.out)) hb); clear BK139; clear HB; have BK139 := n0_; have HB := n1_; clear n0_ n1_; (try clear hb); (try clear hb2); (try clear hk); (try clear hi); have hcz13_0 : w12.cell? ⟨gb139, 0, none⟩ = some (.int .i64 a0_0) := (qai BK139.out 0).trans rfl; have hcz13_1 : w12.cell? ⟨gb139, 1, none⟩ = some (.int .i64 a0_1) := (qai BK139.out 1).trans rfl; have hcz13_2 : w12.cell? ⟨gb139, 2, none⟩ = some (.slice A0_2 l0_2.length c0_2) := (qai BK139.out 2).trans rfl; have hfz13_0 := qah BK139.out 0; have hfz13_1 := qah BK139.out 1; have hfz13_2 := qah BK139.out 2) | (go_at_call 77; (with_reducible refine (slices_Contains_int_int.calls k _ _ l0_2 a1 t142 _ ?side1 ?side2 A7.out).mono ?_); (case side1 => repeat (first | exact (Kd.qbf HR0_2.out HB.out) | (with_reducible first | refine Kd.qaz ?_ _ | refine Kd.qay ?_ _ | refine Kd.qbd ?_))); (case side2 => exact HC0_2.out); rintro e w' ⟨rfl, ⟨nd, rfl⟩⟩))
   go_ret
   exact ⟨by first | rfl | (simp [errW_none, errW_some] <;> rfl) | (simp [*, errW_none, errW_some] <;> rfl), by repeat (first | (with_reducible first | exact HB.out | apply qad | apply qaa | apply qac | refine qae ?_ GE139.out) | exact HB.out)⟩
  ·replace c6 := Bool.eq_false_iff.mpr c6
   subst c6
   have H1 := H
   rw [if_neg (show ¬ (false = true) by decide)] at H1
   clear H
   have H := H1
   clear H1
   obtain rfl := Option.some.inj H
   go_enter Try.func110, Try.ntmps110
   go_wp2_with (first | ((with_reducible refine qas (N := 2) rfl ?_); refine qar ?hg (N := 2) ?hd (cs := #[.int .i64 a0_0, .int .i64 a0_1, .slice A0_2 l0_2.length c0_2]) (t := 34) ?hr ?_; (case hd => rfl); (case hg => rfl); (case hr => first | (go_simp; done) | (go_simp; rfl)); intro gb139 hg w14 hbox hb; have n0_ := qab.mk (qak (by repeat (first | (with_reducible first | exact HB.out | apply qad | apply qaa | apply qac) | exact HB.out)) hb); have n1_ := qab.mk (hbox); have n2_ := qab.mk ((by rw [hg]; exact (qal (by repeat (first | (with_reducible first | exact HB.out | apply qad | apply qaa | apply qac) | exact HB.out))) : w.heap.size ≤ gb139)); have n3_ := qab.mk ((by rw [hg]; exact (qal (by repeat (first | (with_reducible first | exact HB.out | apply qad | apply qaa | apply qac) | exact HB.out))) : w.heap.size ≤ gb139)); clear HB; have HB := n0_; have BK139 := n1_; have GW139 := n2_; have GE139 := n3_; clear n0_ n1_ n2_ n3_; clear hb hbox hg; have hcz15_0 : w14.cell? ⟨gb139, 0, none⟩ = some (.int .i64 a0_0) := (qai BK139.out 0).trans rfl; have hcz15_1 : w14.cell? ⟨gb139, 1, none⟩ = some (.int .i64 a0_1) := (qai BK139.out 1).trans rfl; have hcz15_2 : w14.cell? ⟨gb139, 2, none⟩ = some (.slice A0_2 l0_2.length c0_2) := (qai BK139.out 2).trans rfl; have hfz15_0 := qah BK139.out 0; have hfz15_1 := qah BK139.out 1; have hfz15_2 := qah BK139.out 2) | ((with_reducible refine qaq (f := 101) rfl ?_); refine qbe (some 6) rfl rfl Try.func101 (by kernel_rfl) rfl #[.agg #[.int .i64 a0_0, .int .i64 a0_1, .slice A0_2 l0_2.length c0_2]] rfl (by (try simp only [List.map_toArray, List.map_cons, List.map_nil]); first | done | rfl | (simp only [List.length_drop, List.length_take]; rfl)) ?_; (with_reducible refine (impl_MeshOk.calls k a0_0 a0_1 _ _ l0_2 true _ ?side1 ?side2 A3.out).mono ?_); (case side1 => repeat (first | exact (Kd.qbf HR0_2.out HB.out) | (with_reducible first | refine Kd.qaz ?_ _ | refine Kd.qay ?_ _ | refine Kd.qbd ?_))); (case side2 => exact HC0_2.out); rintro e w16 ⟨rfl, hb⟩; refine ⟨_, rfl, ?_⟩; have n0_ := qab.mk (qam (g := gb139) (o := .cells #[.int .i64 a0_0, .int .i64 a0_1, .slice A0_2 l0_2.length c0_2] 34 (0, 0)) (by (with_reducible repeat (first | refine qag ?_ _ | refine qaj ?_ | refine qaf ?_ _)); exact BK139.out) hb); have n1_ := qab.mk (qak (by repeat (first | (with_reducible first | exact HB.out | apply qad | apply qaa | apply qac | refine qae ?_ GE139.out) | exact HB.out)) hb); clear BK139; clear HB; have BK139 := n0_; have HB := n1_; clear n0_ n1_; (try clear hb); (try clear hb2); (try clear hk); (try clear hi); have hcz17_0 : w16.cell? ⟨gb139, 0, none⟩ = some (.int .i64 a0_0) := (qai BK139.out 0).trans rfl; have hcz17_1 : w16.cell? ⟨gb139, 1, none⟩ = some (.int .i64 a0_1) := (qai BK139.out 1).trans rfl; have hcz17_2 : w16.cell? ⟨gb139, 2, none⟩ = some (.slice A0_2 l0_2.length c0_2) := (qai BK139.out 2).trans rfl; have hfz17_0 := qah BK139.out 0; have hfz17_1 := qah BK139.out 1; have hfz17_2 := qah BK139.out 2) | (go_at_call 142; (with_reducible refine (impl_leads.calls a0_0 a0_1 a1 false _ A5.out).mono ?_); rintro e w18 ⟨rfl, hb⟩; have n0_ := qab.mk (qam (g := gb139) (o := .cells #[.int .i64 a0_0, .int .i64 a0_1, .slice A0_2 l0_2.length c0_2] 34 (0, 0)) (by (with_reducible repeat (first | refine qag ?_ _ | refine qaj ?_ | refine qaf ?_ _)); exact BK139.out) hb); have n1_ := qab.mk (qak (by repeat (first | (with_reducible first | exact HB.out | apply qad | apply qaa | apply qac | refine qae ?_ GE139.out) | exact HB.out)) hb); clear BK139; clear HB; have BK139 := n0_; have HB := n1_; clear n0_ n1_; (try clear hb); (try clear hb2); (try clear hk); (try clear hi)))
   go_ret
   exact ⟨by first | rfl | (simp [errW_none, errW_some] <;> rfl) | (simp [*, errW_none, errW_some] <;> rfl), by repeat (first | (with_reducible first | exact HB.out | apply qad | apply qaa | apply qac | refine qae ?_ GE139.out) | exact HB.out)⟩
 ·replace c4 := Bool.eq_false_iff.mpr c4
  subst c4
  have H1 := H
  rw [if_neg (show ¬ (false = true) by decide)] at H1
  clear H
  have H := H1
  clear H1
  obtain rfl := Option.some.inj H
  go_enter Try.func110, Try.ntmps110
  go_wp2_with (first | ((with_reducible refine qas (N := 2) rfl ?_); refine qar ?hg (N := 2) ?hd (cs := #[.int .i64 a0_0, .int .i64 a0_1, .slice A0_2 l0_2.length c0_2]) (t := 34) ?hr ?_; (case hd => rfl); (case hg => rfl); (case hr => first | (go_simp; done) | (go_simp; rfl)); intro gb139 hg w19 hbox hb; have n0_ := qab.mk (qak (by repeat (first | (with_reducible first | exact HB.out | apply qad | apply qaa | apply qac) | exact HB.out)) hb); have n1_ := qab.mk (hbox); have n2_ := qab.mk ((by rw [hg]; exact (qal (by repeat (first | (with_reducible first | exact HB.out | apply qad | apply qaa | apply qac) | exact HB.out))) : w.heap.size ≤ gb139)); have n3_ := qab.mk ((by rw [hg]; exact (qal (by repeat (first | (with_reducible first | exact HB.out | apply qad | apply qaa | apply qac) | exact HB.out))) : w.heap.size ≤ gb139)); clear HB; have HB := n0_; have BK139 := n1_; have GW139 := n2_; have GE139 := n3_; clear n0_ n1_ n2_ n3_; clear hb hbox hg; have hcz20_0 : w19.cell? ⟨gb139, 0, none⟩ = some (.int .i64 a0_0) := (qai BK139.out 0).trans rfl; have hcz20_1 : w19.cell? ⟨gb139, 1, none⟩ = some (.int .i64 a0_1) := (qai BK139.out 1).trans rfl; have hcz20_2 : w19.cell? ⟨gb139, 2, none⟩ = some (.slice A0_2 l0_2.length c0_2) := (qai BK139.out 2).trans rfl; have hfz20_0 := qah BK139.out 0; have hfz20_1 := qah BK139.out 1; have hfz20_2 := qah BK139.out 2) | ((with_reducible refine qaq (f := 101) rfl ?_); refine qbe (some 6) rfl rfl Try.func101 (by kernel_rfl) rfl #[.agg #[.int .i64 a0_0, .int .i64 a0_1, .slice A0_2 l0_2.length c0_2]] rfl (by (try simp only [List.map_toArray, List.map_cons, List.map_nil]); first | done | rfl | (simp only [List.length_drop, List.length_take]; rfl)) ?_; (with_reducible refine (impl_MeshOk.calls k a0_0 a0_1 _ _ l0_2 false _ ?side1 ?side2 A3.out).mono ?_); (case side1 => repeat (first | exact (Kd.qbf HR0_2.out HB.out) | (with_reducible first | refine Kd.qaz ?_ _ | refine Kd.qay ?_ _ | refine Kd.qbd ?_))); (case side2 => exact HC0_2.out); rintro e w21 ⟨rfl, hb⟩; refine ⟨_, rfl, ?_⟩; have n0_ := qab.mk (qam (g := gb139) (o := .cells #[.int .i64 a0_0, .int .i64 a0_1, .slice A0_2 l0_2.length c0_2] 34 (0, 0)) (by (with_reducible repeat (first | refine qag ?_ _ | refine qaj ?_ | refine qaf ?_ _)); exact BK139.out) hb); have n1_ := qab.mk (qak (by repeat (first | (with_reducible first | exact HB.out | apply qad | apply qaa | apply qac | refine qae ?_ GE139.out) | exact HB.out)) hb); clear BK139; clear HB; have BK139 := n0_; have HB := n1_; clear n0_ n1_; (try clear hb); (try clear hb2); (try clear hk); (try clear hi)))
  go_ret
  exact ⟨by first | rfl | (simp [errW_none, errW_some] <;> rfl) | (simp [*, errW_none, errW_some] <;> rfl), by repeat (first | (with_reducible first | exact HB.out | apply qad | apply qaa | apply qac | refine qae ?_ GE139.out) | exact HB.out)⟩


/-! ### impl_endOf: function 111 -/
def impl_endOf.f (a0_0 : Int) (a0_1 : Int) (l0_2 : List Int) (a1 : Int) : Option (Int) := (impl_NextNode.f a0_0 a0_1 (wrap64 (Int.tdiv a1 4)) (Int.tmod a1 4)).bind fun t144 => (some t144)
set_option maxHeartbeats 8000000 in
set_option maxRecDepth 100000 in
theorem impl_endOf.calls (a0_0 : Int) (a0_1 : Int) (A0_2 : Option Addr) (c0_2 : Nat) (l0_2 : List Int) (a1 : Int) (r : Int) (w : World) (hr0_2 : Kd.C (Kd.int .i64) w A0_2 l0_2.length l0_2) (hc0_2 : l0_2.length ≤ c0_2) (h : impl_endOf.f a0_0 a0_1 l0_2 a1 = some r) :
  Calls Try.prog 111 #[.agg #[.int .i64 a0_0, .int .i64 a0_1, .slice A0_2 l0_2.length c0_2], .int .i64 a1] w fun e w' => e = .returned (.int .i64 r) ∧ Below w.heap.size w w' := by
 have hu34 := Try.underlying34
 have hu32 := Try.underlying32
 have HR0_2 := qab.mk hr0_2
 have HC0_2 := qab.mk hc0_2
 clear hr0_2 hc0_2
 have HB := qab.mk (Below.refl w.heap.size w)
 have H : ((impl_NextNode.f a0_0 a0_1 (wrap64 (Int.tdiv a1 4)) (Int.tmod a1 4)).bind fun t144 => (some t144)) = some r := h
 clear h
 replace H := Option.bind_eq_some_iff.mp H
 obtain ⟨t144, A30, H⟩ := H
 try dsimp only at H
 have A3 := qab.mk A30
 clear A30
 obtain rfl := Option.some.inj H
 go_enter Try.func111, Try.ntmps111
 go_wp2_with (first | ((with_reducible refine qas (N := 2) rfl ?_); refine qar ?hg (N := 2) ?hd (cs := #[.int .i64 a0_0, .int .i64 a0_1, .slice A0_2 l0_2.length c0_2]) (t := 34) ?hr ?_; (case hd => rfl); (case hg => rfl); (case hr => first | (go_simp; done) | (go_simp; rfl)); intro gb143 hg w4 hbox hb; have n0_ := qab.mk (qak (by repeat (first | (with_reducible first | exact HB.out | apply qad | apply qaa | apply qac) | exact HB.out)) hb); have n1_ := qab.mk (hbox); have n2_ := qab.mk ((by rw [hg]; exact (qal (by repeat (first | (with_reducible first | exact HB.out | apply qad | apply qaa | apply qac) | exact HB.out))) : w.heap.size ≤ gb143)); have n3_ := qab.mk ((by rw [hg]; exact (qal (by repeat (first | (with_reducible first | exact HB.out | apply qad | apply qaa | apply qac) | exact HB.out))) : w.heap.size ≤ gb143)); clear HB; have HB := n0_; have BK143 := n1_; have GW143 := n2_; have GE143 := n3_; clear n0_ n1_ n2_ n3_; clear hb hbox hg; have hcz5_0 : w4.cell? ⟨gb143, 0, none⟩ = some (.int .i64 a0_0) := (qai BK143.out 0).trans rfl; have hcz5_1 : w4.cell? ⟨gb143, 1, none⟩ = some (.int .i64 a0_1) := (qai BK143.out 1).trans rfl; have hcz5_2 : w4.cell? ⟨gb143, 2, none⟩ = some (.slice A0_2 l0_2.length c0_2) := (qai BK143.out 2).trans rfl; have hfz5_0 := qah BK143.out 0; have hfz5_1 := qah BK143.out 1; have hfz5_2 := qah BK143.out 2) | ((with_reducible refine qaq (f := 62) rfl ?_); refine qbe (some 11) rfl rfl Try.func62 (by kernel_rfl) rfl #[.agg #[.int .i64 a0_0, .int .i64 a0_1], .int .i64 (wrap64 (Int.tdiv a1 4)), .int .i64 (Int.tmod a1 4)] rfl (by (try simp only [List.map_toArray, List.map_cons, List.map_nil]); first | done | rfl | (simp only [List.length_drop, List.length_take]; rfl)) ?_; (with_reducible refine (impl_NextNode.calls a0_0 a0_1 (wrap64 (Int.tdiv a1 4)) (Int.tmod a1 4) t144 _ A3.out).mono ?_); rintro e w6 ⟨rfl, hb⟩; refine ⟨_, rfl, ?_⟩; have n0_ := qab.mk (qam (g := gb143) (o := .cells #[.int .i64 a0_0, .int .i64 a0_1, .slice A0_2 l0_2.length c0_2] 34 (0, 0)) (by (with_reducible repeat (first | refine qag ?_ _ | refine qaj ?_ | refine qaf ?_ _)); exact BK143.out) hb); have n1_ := qab.mk (qak (by repeat (first | (with_reducible first | exact HB.out | apply qad | apply qaa | apply qac | refine qae ?_ GE143.out) | exact HB.out)) hb); clear BK143; clear HB; have BK143 := n0_; have HB := n1_; clear n0_ n1_; (try clear hb); (try clear hb2); (try clear hk); (try clear hi)))
 go_ret
 exact ⟨by first | rfl | (simp [errW_none, errW_some] <;> rfl) | (simp [*, errW_none, errW_some] <;> rfl), by repeat (first | (with_reducible first | exact HB.out | apply qad | apply qaa | apply qac | refine qae ?_ GE143.out) | exact HB.out)⟩


end Go.Proofs.Ytmfkgnfjjfnfmaa.XV
