/- What is proved: contracts of functions of the program (each: where its Lean function answers, the call returns that answer); written by a program of this session. -/
import Derived.Test.YtmfkgnfjjfnfmaaXV0
import Derived.Test.YtmfkgnfjjfnfmaaXV2
namespace Go.Proofs.Ytmfkgnfjjfnfmaa.XV
open Go.RowKit Go.Proofs.YtmfkgnfjjfnfmaaW.PrintWords Go.Proofs.YtmfkgnfjjfnfmaaW.PrintLast Go.Proofs.YtmfkgnfjjfnfmaaW.PrintMore
attribute [local go_sem] qcg qce qck qcj qbz qby qcf qcd   -- for this text's walks alone
set_option linter.unusedVariables false
set_option linter.unusedSimpArgs false

/-! ### impl_WalkTable: function 52 -/
mutual
def impl_WalkTable.j0 : Nat → Int → Int → Bool → Int → Int → List Int → List Int → Option (List Int)
 | 0, _, _, _, _, _, _, _ => none
 | k + 1, x2, x3, x33, x146000, x146001, x146002, x147000 => if x33 = true then (some ([] : List Int)) else (impl_WalkTable.l0 k x3 (([] : List Int)) x2 x146000 x146001 x146002 x147000)
def impl_WalkTable.l0 : Nat → Int → List Int → Int → Int → Int → List Int → List Int → Option (List Int)
 | 0, _, _, _, _, _, _, _ => none
 | k + 1, x3, x9, x10, x146000, x146001, x146002, x147000 => (impl_PortAt.f k x146000 x146001 x146002 x147000 x10 x3).bind fun t153 => (if t153 < 0 then (some ([] : List Int)) else (if t153 = 4 then (if x10 = x3 then (some x9) else (some ([] : List Int))) else ((impl_HasChannel.f k x146000 x146001 x146002 (wrap64 ((wrap64 (4 * x10)) + t153))).bind fun t154 => (if t154 = true then ((impl_NodeCount.f x146000 x146001).bind fun t155 => (if (x9.length : Int) = t155 then (some ([] : List Int)) else (if x9.length < 17592186044416 then ((impl_endOf.f x146000 x146001 x146002 (wrap64 ((wrap64 (4 * x10)) + t153))).bind fun t159 => (impl_WalkTable.l0 k x3 (x9 ++ [wrap64 ((wrap64 (4 * x10)) + t153)]) t159 x146000 x146001 x146002 x147000)) else (none)))) else (some ([] : List Int))))))
end
def impl_WalkTable.f (k : Nat) (a0_0 : Int) (a0_1 : Int) (l0_2 : List Int) (l1_0 : List Int) (a2 : Int) (a3 : Int) : Option (List Int) := if a2 = a3 then (impl_WalkTable.j0 k a2 a3 true a0_0 a0_1 l0_2 l1_0) else ((impl_MeshOk.f k a0_0 a0_1 l0_2).bind fun t147 => (if t147 = true then ((impl_isNode.f a0_0 a0_1 a2).bind fun t148 => (if t148 = true then ((impl_isNode.f a0_0 a0_1 a3).bind fun t149 => (impl_WalkTable.j0 k a2 a3 (!t149) a0_0 a0_1 l0_2 l1_0)) else (impl_WalkTable.j0 k a2 a3 true a0_0 a0_1 l0_2 l1_0))) else (impl_WalkTable.j0 k a2 a3 true a0_0 a0_1 l0_2 l1_0)))
theorem impl_WalkTable.mono_l : ∀ k, (∀ y0 y1 y2 y3 y4 y5 y6, LeO (impl_WalkTable.j0 k y0 y1 y2 y3 y4 y5 y6) (impl_WalkTable.j0 (k + 1) y0 y1 y2 y3 y4 y5 y6)) ∧ (∀ y0 y1 y2 y3 y4 y5 y6, LeO (impl_WalkTable.l0 k y0 y1 y2 y3 y4 y5 y6) (impl_WalkTable.l0 (k + 1) y0 y1 y2 y3 y4 y5 y6))
 | 0 => ⟨fun _ _ _ _ _ _ _ r h => by simp [impl_WalkTable.j0] at h, fun _ _ _ _ _ _ _ r h => by simp [impl_WalkTable.l0] at h⟩
 | k + 1 => by
  obtain ⟨ih0, ih1⟩ := impl_WalkTable.mono_l k
  refine ⟨?_, ?_⟩
  ·intro y0 y1 y2 y3 y4 y5 y6
   unfold impl_WalkTable.j0
   repeat' first
   | (with_reducible exact ih0 _ _ _ _ _ _ _)
   | (with_reducible exact ih1 _ _ _ _ _ _ _)
   | (with_reducible exact impl_HasChannel.mono _ _ _ _ _)
   | (with_reducible exact impl_MeshOk.mono _ _ _ _)
   | (with_reducible exact impl_PortAt.mono _ _ _ _ _ _ _)
   | (with_reducible exact LeO.refl _)
   | (with_reducible exact LeO.none _)
   | (with_reducible refine LeO.ite ?_ ?_)
   | (with_reducible refine LeO.bind ?_ (fun _ => ?_))
   | exact ih0 _ _ _ _ _ _ _
   | exact ih1 _ _ _ _ _ _ _
   | exact impl_HasChannel.mono _ _ _ _ _
   | exact impl_MeshOk.mono _ _ _ _
   | exact impl_PortAt.mono _ _ _ _ _ _ _
   | exact LeO.none _
   | refine LeO.ite ?_ ?_
   | refine LeO.bind ?_ (fun _ => ?_)
  ·intro y0 y1 y2 y3 y4 y5 y6
   unfold impl_WalkTable.l0
   repeat' first
   | (with_reducible exact ih0 _ _ _ _ _ _ _)
   | (with_reducible exact ih1 _ _ _ _ _ _ _)
   | (with_reducible exact impl_HasChannel.mono _ _ _ _ _)
   | (with_reducible exact impl_MeshOk.mono _ _ _ _)
   | (with_reducible exact impl_PortAt.mono _ _ _ _ _ _ _)
   | (with_reducible exact LeO.refl _)
   | (with_reducible exact LeO.none _)
   | (with_reducible refine LeO.ite ?_ ?_)
   | (with_reducible refine LeO.bind ?_ (fun _ => ?_))
   | exact ih0 _ _ _ _ _ _ _
   | exact ih1 _ _ _ _ _ _ _
   | exact impl_HasChannel.mono _ _ _ _ _
   | exact impl_MeshOk.mono _ _ _ _
   | exact impl_PortAt.mono _ _ _ _ _ _ _
   | exact LeO.none _
   | refine LeO.ite ?_ ?_
   | refine LeO.bind ?_ (fun _ => ?_)
theorem impl_WalkTable.mono : ∀ a0 a1 a2 a3 a4 a5 k, LeO (impl_WalkTable.f k a0 a1 a2 a3 a4 a5) (impl_WalkTable.f (k + 1) a0 a1 a2 a3 a4 a5) := by
 intro a0 a1 a2 a3 a4 a5 k
 obtain ⟨ih0, ih1⟩ := impl_WalkTable.mono_l k
 unfold impl_WalkTable.f
 repeat' first
   | (with_reducible exact ih0 _ _ _ _ _ _ _)
   | (with_reducible exact ih1 _ _ _ _ _ _ _)
   | (with_reducible exact impl_HasChannel.mono _ _ _ _ _)
   | (with_reducible exact impl_MeshOk.mono _ _ _ _)
   | (with_reducible exact impl_PortAt.mono _ _ _ _ _ _ _)
   | (with_reducible exact LeO.refl _)
   | (with_reducible exact LeO.none _)
   | (with_reducible refine LeO.ite ?_ ?_)
   | (with_reducible refine LeO.bind ?_ (fun _ => ?_))
   | exact ih0 _ _ _ _ _ _ _
   | exact ih1 _ _ _ _ _ _ _
   | exact impl_HasChannel.mono _ _ _ _ _
   | exact impl_MeshOk.mono _ _ _ _
   | exact impl_PortAt.mono _ _ _ _ _ _ _
   | exact LeO.none _
   | refine LeO.ite ?_ ?_
   | refine LeO.bind ?_ (fun _ => ?_)
set_option maxHeartbeats 8000000 in
set_option maxRecDepth 100000 in
theorem impl_WalkTable.calls (k : Nat) (a0_0 : Int) (a0_1 : Int) (A0_2 : Option Addr) (c0_2 : Nat) (l0_2 : List Int) (A1_0 : Option Addr) (c1_0 : Nat) (l1_0 : List Int) (a2 : Int) (a3 : Int) (r : List Int) (w : World) (hr0_2 : Kd.C (Kd.int .i64) w A0_2 l0_2.length l0_2) (hc0_2 : l0_2.length ≤ c0_2) (hr1_0 : Kd.C (Kd.int .i64) w A1_0 l1_0.length l1_0) (hc1_0 : l1_0.length ≤ c1_0) (h : impl_WalkTable.f k a0_0 a0_1 l0_2 l1_0 a2 a3 = some r) :
  Calls Try.prog 52 #[.agg #[.int .i64 a0_0, .int .i64 a0_1, .slice A0_2 l0_2.length c0_2], .agg #[.slice A1_0 l1_0.length c1_0], .int .i64 a2, .int .i64 a3] w fun e w' => ∃ v0_ : Value, e = .returned (v0_) ∧ Kd.R (Kd.int .i64) 3 w' w.heap.size (fun _ => True) v0_ r ∧ Below w.heap.size w w' := by
 have hu34 := Try.underlying34
 have hu36 := Try.underlying36
 have hu32 := Try.underlying32
 have HR0_2 := qab.mk hr0_2
 have HC0_2 := qab.mk hc0_2
 clear hr0_2 hc0_2
 have HR1_0 := qab.mk hr1_0
 have HC1_0 := qab.mk hc1_0
 clear hr1_0 hc1_0
 have HB := qab.mk (Below.refl w.heap.size w)
 have H : (if a2 = a3 then (impl_WalkTable.j0 k a2 a3 true a0_0 a0_1 l0_2 l1_0) else ((impl_MeshOk.f k a0_0 a0_1 l0_2).bind fun t147 => (if t147 = true then ((impl_isNode.f a0_0 a0_1 a2).bind fun t148 => (if t148 = true then ((impl_isNode.f a0_0 a0_1 a3).bind fun t149 => (impl_WalkTable.j0 k a2 a3 (!t149) a0_0 a0_1 l0_2 l1_0)) else (impl_WalkTable.j0 k a2 a3 true a0_0 a0_1 l0_2 l1_0))) else (impl_WalkTable.j0 k a2 a3 true a0_0 a0_1 l0_2 l1_0)))) = some r := h
 clear h
 have HC5 := qab.mk H
 clear H
 go_enter Try.func52, Try.ntmps52
 go_upto_region 1 with (first | ((with_reducible refine qas (N := 4) rfl ?_); (try (refine qbh (by rfl) ?_; dsimp only)); refine qar ?hg (N := 4) ?hd (cs := #[.int .i64 a0_0, .int .i64 a0_1, .slice A0_2 l0_2.length c0_2]) (t := 34) ?hr ?_; (case hd => rfl); (case hg => rfl); (case hr => first | (go_simp; done) | (go_simp; rfl)); intro gb145 hg w6 hbox hb; have n0_ := qab.mk (qak (by repeat (first | (with_reducible first | exact HB.out | apply qad | apply qaa | apply qac) | exact HB.out)) hb); have n1_ := qab.mk (hbox); have n2_ := qab.mk ((by rw [hg]; exact (qal (by repeat (first | (with_reducible first | exact HB.out | apply qad | apply qaa | apply qac) | exact HB.out))) : w.heap.size ≤ gb145)); have n3_ := qab.mk ((by rw [hg]; exact (qal (by repeat (first | (with_reducible first | exact HB.out | apply qad | apply qaa | apply qac) | exact HB.out))) : w.heap.size ≤ gb145)); clear HB; have HB := n0_; have BK145 := n1_; have GW145 := n2_; have GE145 := n3_; clear n0_ n1_ n2_ n3_; clear hb hbox hg) | ((with_reducible refine qas (N := 5) rfl ?_); (try (refine qbh (by rfl) ?_; dsimp only)); refine qar ?hg (N := 5) ?hd (cs := #[.slice A1_0 l1_0.length c1_0]) (t := 36) ?hr ?_; (case hd => rfl); (case hg => rfl); (case hr => first | (go_simp; done) | (go_simp; rfl)); intro gb146 hg w7 hbox hb; have n0_ := qab.mk (qam (g := gb145) (o := .cells #[.int .i64 a0_0, .int .i64 a0_1, .slice A0_2 l0_2.length c0_2] 34 (0, 0)) (by (with_reducible repeat (first | refine qag ?_ _ | refine qaj ?_ | refine qaf ?_ _)); exact BK145.out) hb); have n1_ := qab.mk (qak (by repeat (first | (with_reducible first | exact HB.out | apply qad | apply qaa | apply qac | refine qae ?_ GE145.out) | exact HB.out)) hb); have n2_ := qab.mk (hbox); have n3_ := qab.mk ((by rw [hg]; exact (qal (by repeat (first | (with_reducible first | exact HB.out | apply qad | apply qaa | apply qac | refine qae ?_ GE145.out) | exact HB.out))) : w.heap.size ≤ gb146)); have n4_ := qab.mk ((by rw [hg]; exact (qal (by repeat (first | (with_reducible first | exact HB.out | apply qad | apply qaa | apply qac | refine qae ?_ GE145.out) | exact HB.out))) : w.heap.size ≤ gb146)); have n5_ := qab.mk ((by rw [hg]; exact Nat.ne_of_lt (qbo (g := gb145) (o := .cells #[.int .i64 a0_0, .int .i64 a0_1, .slice A0_2 l0_2.length c0_2] 34 (0, 0)) (by (with_reducible repeat (first | refine qag ?_ _ | refine qaj ?_ | refine qaf ?_ _)); exact BK145.out)) : gb145 ≠ gb146)); have n6_ := qab.mk ((by rw [hg]; exact Nat.ne_of_gt (qbo (g := gb145) (o := .cells #[.int .i64 a0_0, .int .i64 a0_1, .slice A0_2 l0_2.length c0_2] 34 (0, 0)) (by (with_reducible repeat (first | refine qag ?_ _ | refine qaj ?_ | refine qaf ?_ _)); exact BK145.out)) : gb146 ≠ gb145)); clear BK145; clear HB; have BK145 := n0_; have HB := n1_; have BK146 := n2_; have GW146 := n3_; have GE146 := n4_; have NB145_146 := n5_; have NB146_145 := n6_; clear n0_ n1_ n2_ n3_ n4_ n5_ n6_; clear hb hbox hg))
 (try simp only [Act.put, List.setIfInBounds_toArray, List.set_cons_zero, List.set_cons_succ])
 go_cut [33] (fun v33 wc => ∃ (kq : Nat) (x33_4 : Bool), v33 = .bool x33_4 ∧ qab (impl_WalkTable.j0 kq a2 a3 x33_4 a0_0 a0_1 l0_2 l1_0 = some r) ∧ qab (kq ≤ k) ∧ qab (wc.heap[gb145]? = some (.cells #[.int .i64 a0_0, .int .i64 a0_1, (.slice A0_2 l0_2.length c0_2)] 34 (0, 0))) ∧ qab (wc.heap[gb146]? = some (.cells #[(.slice A1_0 l1_0.length c1_0)] 36 (0, 0))) ∧ qab (Below w.heap.size w wc))
 case first =>
  have H := HC5.out
  clear HC5
  by_cases c8 : a2 = a3
  ·rw [if_pos c8] at H
   have c8b0 : (a2 == a3) = true := beq_iff_eq.mpr c8
   have c8b1 : (a2 != a3) = false := bne_eq_false_iff_eq.mpr c8
   clear c8
   (first | rw [c8b0] | (simp only [i64_w, i32_w]; rw [c8b0]) | skip)
   have H' := qab.mk H
   clear H
   go_wp2
   go_meet
   case rel => exact ⟨_, (true), (by first | rfl | (simp; done) | (simp [*]; done)), H', ⟨by first | omega | exact Nat.le_refl _⟩, ⟨by (with_reducible repeat (first | refine qag ?_ _ | refine qaj ?_ | refine qaf ?_ _)); exact BK145.out⟩, ⟨by (with_reducible repeat (first | refine qag ?_ _ | refine qaj ?_ | refine qaf ?_ _)); exact BK146.out⟩, ⟨by repeat (first | (with_reducible first | exact HB.out | apply qad | apply qaa | apply qac | refine qae ?_ GE145.out | refine qae ?_ GE146.out) | exact HB.out)⟩⟩
  ·rw [if_neg c8] at H
   have c8b0 : (a2 == a3) = false := beq_eq_false_iff_ne.mpr c8
   have c8b1 : (a2 != a3) = true := bne_iff_ne.mpr c8
   (first | rw [c8b0] | (simp only [i64_w, i32_w]; rw [c8b0]) | skip)
   replace H := Option.bind_eq_some_iff.mp H
   obtain ⟨t147, A90, H⟩ := H
   try dsimp only at H
   have A9 := qab.mk A90
   clear A90
   by_cases c10 : t147 = true
   ·subst c10
    have H1 := H
    rw [if_pos rfl] at H1
    clear H
    have H := H1
    clear H1
    replace H := Option.bind_eq_some_iff.mp H
    obtain ⟨t148, A110, H⟩ := H
    try dsimp only at H
    have A11 := qab.mk A110
    clear A110
    by_cases c12 : t148 = true
    ·subst c12
     have H1 := H
     rw [if_pos rfl] at H1
     clear H
     have H := H1
     clear H1
     replace H := Option.bind_eq_some_iff.mp H
     obtain ⟨t149, A130, H⟩ := H
     try dsimp only at H
     have A13 := qab.mk A130
     clear A130
     have H' := qab.mk H
     clear H
     have hnb14 := NB145_146.out
     have hnc14 := NB146_145.out
     have hcz15_0 : w7.cell? ⟨gb145, 0, none⟩ = some (.int .i64 a0_0) := (qai BK145.out 0).trans rfl
     have hcz15_1 : w7.cell? ⟨gb145, 1, none⟩ = some (.int .i64 a0_1) := (qai BK145.out 1).trans rfl
     have hcz15_2 : w7.cell? ⟨gb145, 2, none⟩ = some (.slice A0_2 l0_2.length c0_2) := (qai BK145.out 2).trans rfl
     have hfz15_0 := qah BK145.out 0
     have hfz15_1 := qah BK145.out 1
     have hfz15_2 := qah BK145.out 2
     go_wp2_with (first | (go_at_call 101; (with_reducible refine (impl_MeshOk.calls k a0_0 a0_1 _ _ l0_2 true _ ?side1 ?side2 A9.out).mono ?_); (case side1 => repeat (first | exact (Kd.qbf HR0_2.out HB.out) | (with_reducible first | refine Kd.qaz ?_ _ | refine Kd.qay ?_ _ | refine Kd.qbd ?_))); (case side2 => exact HC0_2.out); rintro e w16 ⟨rfl, hb⟩; have n0_ := qab.mk (qam (g := gb145) (o := .cells #[.int .i64 a0_0, .int .i64 a0_1, .slice A0_2 l0_2.length c0_2] 34 (0, 0)) (by (with_reducible repeat (first | refine qag ?_ _ | refine qaj ?_ | refine qaf ?_ _)); exact BK145.out) hb); have n1_ := qab.mk (qam (g := gb146) (o := .cells #[.slice A1_0 l1_0.length c1_0] 36 (0, 0)) (by (with_reducible repeat (first | refine qag ?_ _ | refine qaj ?_ | refine qaf ?_ _)); exact BK146.out) hb); have n2_ := qab.mk (qak (by repeat (first | (with_reducible first | exact HB.out | apply qad | apply qaa | apply qac | refine qae ?_ GE145.out | refine qae ?_ GE146.out) | exact HB.out)) hb); clear BK145; clear BK146; clear HB; have BK145 := n0_; have BK146 := n1_; have HB := n2_; clear n0_ n1_ n2_; (try clear hb); (try clear hb2); (try clear hk); (try clear hi); have hcz17_0 : w16.cell? ⟨gb145, 0, none⟩ = some (.int .i64 a0_0) := (qai BK145.out 0).trans rfl; have hcz17_1 : w16.cell? ⟨gb145, 1, none⟩ = some (.int .i64 a0_1) := (qai BK145.out 1).trans rfl; have hcz17_2 : w16.cell? ⟨gb145, 2, none⟩ = some (.slice A0_2 l0_2.length c0_2) := (qai BK145.out 2).trans rfl; have hfz17_0 := qah BK145.out 0; have hfz17_1 := qah BK145.out 1; have hfz17_2 := qah BK145.out 2) | (go_at_call 108; (with_reducible refine (impl_isNode.calls a0_0 a0_1 a2 true _ A11.out).mono ?_); rintro e w18 ⟨rfl, hb⟩; have n0_ := qab.mk (qam (g := gb145) (o := .cells #[.int .i64 a0_0, .int .i64 a0_1, .slice A0_2 l0_2.length c0_2] 34 (0, 0)) (by (with_reducible repeat (first | refine qag ?_ _ | refine qaj ?_ | refine qaf ?_ _)); exact BK145.out) hb); have n1_ := qab.mk (qam (g := gb146) (o := .cells #[.slice A1_0 l1_0.length c1_0] 36 (0, 0)) (by (with_reducible repeat (first | refine qag ?_ _ | refine qaj ?_ | refine qaf ?_ _)); exact BK146.out) hb); have n2_ := qab.mk (qak (by repeat (first | (with_reducible first | exact HB.out | apply qad | apply qaa | apply qac | refine qae ?_ GE145.out | refine qae ?_ GE146.out) | exact HB.out)) hb); clear BK145; clear BK146; clear HB; have BK145 := n0_; have BK146 := n1_; have HB := n2_; clear n0_ n1_ n2_; (try clear hb); (try clear hb2); (try clear hk); (try clear hi); have hcz19_0 : w18.cell? ⟨gb145, 0, none⟩ = some (.int .i64 a0_0) := (qai BK145.out 0).trans rfl; have hcz19_1 : w18.cell? ⟨gb145, 1, none⟩ = some (.int .i64 a0_1) := (qai BK145.out 1).trans rfl; have hcz19_2 : w18.cell? ⟨gb145, 2, none⟩ = some (.slice A0_2 l0_2.length c0_2) := (qai BK145.out 2).trans rfl; have hfz19_0 := qah BK145.out 0; have hfz19_1 := qah BK145.out 1; have hfz19_2 := qah BK145.out 2) | (go_at_call 108; (with_reducible refine (impl_isNode.calls a0_0 a0_1 a3 t149 _ A13.out).mono ?_); rintro e w20 ⟨rfl, hb⟩; have n0_ := qab.mk (qam (g := gb145) (o := .cells #[.int .i64 a0_0, .int .i64 a0_1, .slice A0_2 l0_2.length c0_2] 34 (0, 0)) (by (with_reducible repeat (first | refine qag ?_ _ | refine qaj ?_ | refine qaf ?_ _)); exact BK145.out) hb); have n1_ := qab.mk (qam (g := gb146) (o := .cells #[.slice A1_0 l1_0.length c1_0] 36 (0, 0)) (by (with_reducible repeat (first | refine qag ?_ _ | refine qaj ?_ | refine qaf ?_ _)); exact BK146.out) hb); have n2_ := qab.mk (qak (by repeat (first | (with_reducible first | exact HB.out | apply qad | apply qaa | apply qac | refine qae ?_ GE145.out | refine qae ?_ GE146.out) | exact HB.out)) hb); clear BK145; clear BK146; clear HB; have BK145 := n0_; have BK146 := n1_; have HB := n2_; clear n0_ n1_ n2_; (try clear hb); (try clear hb2); (try clear hk); (try clear hi)))
     go_meet
     case rel => exact ⟨_, (!t149), (by first | rfl | (simp; done) | (simp [*]; done)), H', ⟨by first | omega | exact Nat.le_refl _⟩, ⟨by (with_reducible repeat (first | refine qag ?_ _ | refine qaj ?_ | refine qaf ?_ _)); exact BK145.out⟩, ⟨by (with_reducible repeat (first | refine qag ?_ _ | refine qaj ?_ | refine qaf ?_ _)); exact BK146.out⟩, ⟨by repeat (first | (with_reducible first | exact HB.out | apply qad | apply qaa | apply qac | refine qae ?_ GE145.out | refine qae ?_ GE146.out) | exact HB.out)⟩⟩
    ·replace c12 := Bool.eq_false_iff.mpr c12
     subst c12
     have H1 := H
     rw [if_neg (show ¬ (false = true) by decide)] at H1
     clear H
     have H := H1
     clear H1
     have H' := qab.mk H
     clear H
     have hnb21 := NB145_146.out
     have hnc21 := NB146_145.out
     have hcz22_0 : w7.cell? ⟨gb145, 0, none⟩ = some (.int .i64 a0_0) := (qai BK145.out 0).trans rfl
     have hcz22_1 : w7.cell? ⟨gb145, 1, none⟩ = some (.int .i64 a0_1) := (qai BK145.out 1).trans rfl
     have hcz22_2 : w7.cell? ⟨gb145, 2, none⟩ = some (.slice A0_2 l0_2.length c0_2) := (qai BK145.out 2).trans rfl
     have hfz22_0 := qah BK145.out 0
     have hfz22_1 := qah BK145.out 1
     have hfz22_2 := qah BK145.out 2
     go_wp2_with (first | (go_at_call 101; (with_reducible refine (impl_MeshOk.calls k a0_0 a0_1 _ _ l0_2 true _ ?side1 ?side2 A9.out).mono ?_); (case side1 => repeat (first | exact (Kd.qbf HR0_2.out HB.out) | (with_reducible first | refine Kd.qaz ?_ _ | refine Kd.qay ?_ _ | refine Kd.qbd ?_))); (case side2 => exact HC0_2.out); rintro e w23 ⟨rfl, hb⟩; have n0_ := qab.mk (qam (g := gb145) (o := .cells #[.int .i64 a0_0, .int .i64 a0_1, .slice A0_2 l0_2.length c0_2] 34 (0, 0)) (by (with_reducible repeat (first | refine qag ?_ _ | refine qaj ?_ | refine qaf ?_ _)); exact BK145.out) hb); have n1_ := qab.mk (qam (g := gb146) (o := .cells #[.slice A1_0 l1_0.length c1_0] 36 (0, 0)) (by (with_reducible repeat (first | refine qag ?_ _ | refine qaj ?_ | refine qaf ?_ _)); exact BK146.out) hb); have n2_ := qab.mk (qak (by repeat (first | (with_reducible first | exact HB.out | apply qad | apply qaa | apply qac | refine qae ?_ GE145.out | refine qae ?_ GE146.out) | exact HB.out)) hb); clear BK145; clear BK146; clear HB; have BK145 := n0_; have BK146 := n1_; have HB := n2_; clear n0_ n1_ n2_; (try clear hb); (try clear hb2); (try clear hk); (try clear hi); have hcz24_0 : w23.cell? ⟨gb145, 0, none⟩ = some (.int .i64 a0_0) := (qai BK145.out 0).trans rfl; have hcz24_1 : w23.cell? ⟨gb145, 1, none⟩ = some (.int .i64 a0_1) := (qai BK145.out 1).trans rfl; have hcz24_2 : w23.cell? ⟨gb145, 2, none⟩ = some (.slice A0_2 l0_2.length c0_2) := (qai BK145.out 2).trans rfl; have hfz24_0 := qah BK145.out 0; have hfz24_1 := qah BK145.out 1; have hfz24_2 := qah BK145.out 2) | (go_at_call 108; (with_reducible refine (impl_isNode.calls a0_0 a0_1 a2 false _ A11.out).mono ?_); rintro e w25 ⟨rfl, hb⟩; have n0_ := qab.mk (qam (g := gb145) (o := .cells #[.int .i64 a0_0, .int .i64 a0_1, .slice A0_2 l0_2.length c0_2] 34 (0, 0)) (by (with_reducible repeat (first | refine qag ?_ _ | refine qaj ?_ | refine qaf ?_ _)); exact BK145.out) hb); have n1_ := qab.mk (qam (g := gb146) (o := .cells #[.slice A1_0 l1_0.length c1_0] 36 (0, 0)) (by (with_reducible repeat (first | refine qag ?_ _ | refine qaj ?_ | refine qaf ?_ _)); exact BK146.out) hb); have n2_ := qab.mk (qak (by repeat (first | (with_reducible first | exact HB.out | apply qad | apply qaa | apply qac | refine qae ?_ GE145.out | refine qae ?_ GE146.out) | exact HB.out)) hb); clear BK145; clear BK146; clear HB; have BK145 := n0_; have BK146 := n1_; have HB := n2_; clear n0_ n1_ n2_; (try clear hb); (try clear hb2); (try clear hk); (try clear hi)))
     go_meet
     case rel => exact ⟨_, (true), (by first | rfl | (simp; done) | (simp [*]; done)), H', ⟨by first | omega | exact Nat.le_refl _⟩, ⟨by (with_reducible repeat (first | refine qag ?_ _ | refine qaj ?_ | refine qaf ?_ _)); exact BK145.out⟩, ⟨by (with_reducible repeat (first | refine qag ?_ _ | refine qaj ?_ | refine qaf ?_ _)); exact BK146.out⟩, ⟨by repeat (first | (with_reducible first | exact HB.out | apply qad | apply qaa | apply qac | refine qae ?_ GE145.out | refine qae ?_ GE146.out) | exact HB.out)⟩⟩
   ·replace c10 := Bool.eq_false_iff.mpr c10
    subst c10
    have H1 := H
    rw [if_neg (show ¬ (false = true) by decide)] at H1
    clear H
    have H := H1
    clear H1
    have H' := qab.mk H
    clear H
    have hnb26 := NB145_146.out
    have hnc26 := NB146_145.out
    have hcz27_0 : w7.cell? ⟨gb145, 0, none⟩ = some (.int .i64 a0_0) := (qai BK145.out 0).trans rfl
    have hcz27_1 : w7.cell? ⟨gb145, 1, none⟩ = some (.int .i64 a0_1) := (qai BK145.out 1).trans rfl
    have hcz27_2 : w7.cell? ⟨gb145, 2, none⟩ = some (.slice A0_2 l0_2.length c0_2) := (qai BK145.out 2).trans rfl
    have hfz27_0 := qah BK145.out 0
    have hfz27_1 := qah BK145.out 1
    have hfz27_2 := qah BK145.out 2
    go_wp2_with (first | (go_at_call 101; (with_reducible refine (impl_MeshOk.calls k a0_0 a0_1 _ _ l0_2 false _ ?side1 ?side2 A9.out).mono ?_); (case side1 => repeat (first | exact (Kd.qbf HR0_2.out HB.out) | (with_reducible first | refine Kd.qaz ?_ _ | refine Kd.qay ?_ _ | refine Kd.qbd ?_))); (case side2 => exact HC0_2.out); rintro e w28 ⟨rfl, hb⟩; have n0_ := qab.mk (qam (g := gb145) (o := .cells #[.int .i64 a0_0, .int .i64 a0_1, .slice A0_2 l0_2.length c0_2] 34 (0, 0)) (by (with_reducible repeat (first | refine qag ?_ _ | refine qaj ?_ | refine qaf ?_ _)); exact BK145.out) hb); have n1_ := qab.mk (qam (g := gb146) (o := .cells #[.slice A1_0 l1_0.length c1_0] 36 (0, 0)) (by (with_reducible repeat (first | refine qag ?_ _ | refine qaj ?_ | refine qaf ?_ _)); exact BK146.out) hb); have n2_ := qab.mk (qak (by repeat (first | (with_reducible first | exact HB.out | apply qad | apply qaa | apply qac | refine qae ?_ GE145.out | refine qae ?_ GE146.out) | exact HB.out)) hb); clear BK145; clear BK146; clear HB; have BK145 := n0_; have BK146 := n1_; have HB := n2_; clear n0_ n1_ n2_; (try clear hb); (try clear hb2); (try clear hk); (try clear hi)))
    go_meet
    case rel => exact ⟨_, (true), (by first | rfl | (simp; done) | (simp [*]; done)), H', ⟨by first | omega | exact Nat.le_refl _⟩, ⟨by (with_reducible repeat (first | refine qag ?_ _ | refine qaj ?_ | refine qaf ?_ _)); exact BK145.out⟩, ⟨by (with_reducible repeat (first | refine qag ?_ _ | refine qaj ?_ | refine qaf ?_ _)); exact BK146.out⟩, ⟨by repeat (first | (with_reducible first | exact HB.out | apply qad | apply qaa | apply qac | refine qae ?_ GE145.out | refine qae ?_ GE146.out) | exact HB.out)⟩⟩
 case rest =>
  clear HC5
  try clear c1
  try clear c2
  try clear p2
  try clear c5
  try clear c8
  try clear c8b0
  try clear c8b1
  try clear c10
  try clear c12
  try clear c14
  try clear c21
  try clear c26
  try clear hcz15_0
  try clear hcz15_1
  try clear hcz15_2
  try clear hcz17_0
  try clear hcz17_1
  try clear hcz17_2
  try clear hcz19_0
  try clear hcz19_1
  try clear hcz19_2
  try clear hcz22_0
  try clear hcz22_1
  try clear hcz22_2
  try clear hcz24_0
  try clear hcz24_1
  try clear hcz24_2
  try clear hcz27_0
  try clear hcz27_1
  try clear hcz27_2
  try clear hfz15_0
  try clear hfz15_1
  try clear hfz15_2
  try clear hfz17_0
  try clear hfz17_1
  try clear hfz17_2
  try clear hfz19_0
  try clear hfz19_1
  try clear hfz19_2
  try clear hfz22_0
  try clear hfz22_1
  try clear hfz22_2
  try clear hfz24_0
  try clear hfz24_1
  try clear hfz24_2
  try clear hfz27_0
  try clear hfz27_1
  try clear hfz27_2
  obtain ⟨kq, x33_4, rfl, HA, HJ4, BK145, BK146, HB⟩ := hcut
  cases kq with
  | zero => exact absurd HA.out (by simp [impl_WalkTable.j0])
  | succ kj4 =>
   have H := HA.out
   clear HA
   simp only [impl_WalkTable.j0] at H
   by_cases c29 : x33_4 = true
   ·subst c29
    have H1 := H
    rw [if_pos rfl] at H1
    clear H
    have H := H1
    clear H1
    obtain rfl := Option.some.inj H
    go_wp2
    go_ret
    exact ⟨_, by first | rfl | (simp [errW_none, errW_some] <;> rfl) | (simp [*, errW_none, errW_some] <;> rfl), by first | exact Kd.R_nil _ _ _ _ _ | exact Kd.N_nil _ _ _ _ _ | exact Kd.V_nil _ _ _ _ _ | exact Kd.Q_nil _ _ _ _ _ | exact Kd.S_nil _ _ _ _ _, by repeat (first | (with_reducible first | exact HB.out | apply qad | apply qaa | apply qac | refine qae ?_ GE145.out | refine qae ?_ GE146.out) | exact HB.out)⟩
   ·replace c29 := Bool.eq_false_iff.mpr c29
    subst c29
    have H1 := H
    rw [if_neg (show ¬ (false = true) by decide)] at H1
    clear H
    have H := H1
    clear H1
    obtain ⟨y150, hy150⟩ : ∃ y_ : List Int, y_ = (([] : List Int)) := ⟨_, rfl⟩
    replace H : (impl_WalkTable.l0 kj4 a3 y150 a2 a0_0 a0_1 l0_2 l1_0) = some r := by first | (rw [hy150]; with_reducible exact H) | (have H2_ := (Option.bind_some _ _).symm.trans H; rw [hy150]; with_reducible exact H2_) | (have H2_ := (Option.bind_some _ _).symm.trans H; with_reducible exact H2_) | with_reducible exact H | (rw [hy150]; exact H) | exact H
    have Ny150 := qab.mk hy150
    clear hy150
    have H' := qab.mk H
    clear H
    go_wp2_with (first | ((with_reducible refine qas (N := 34) rfl ?_); (try (refine qbh (by rfl) ?_; dsimp only)); refine Kd.R_lit (Kd.int .i64) _ 3 ?hg (N := 34) ?hd (xs := ([] : List Int)) (inner := []) (ok := fun _ => True) (okp := fun _ => True) ?hr ?hp (fun _ hk => hk) trivial (Below.refl _ _) (Nat.le_refl _) (by simp) ?_; (case hd => rfl); (case hg => rfl); (case hr => first | (go_simp; done) | (go_simp; rfl)); (case hp => exact (Reps.none _ _)); intro v151 w30 ho31 hb hg_ hnew_; clear hg_ hnew_; (first | rw [← Ny150.out] at ho31 | (simp only [Int.reduceToNat] at ho31; rw [← Ny150.out] at ho31)); have n0_ := qab.mk (Kd.qbm ho31 (qal (by repeat (first | (with_reducible first | exact HB.out | apply qad | apply qaa | apply qac | refine qae ?_ GE145.out | refine qae ?_ GE146.out) | exact HB.out)))); have n1_ := qab.mk (qam (g := gb145) (o := .cells #[.int .i64 a0_0, .int .i64 a0_1, .slice A0_2 l0_2.length c0_2] 34 (0, 0)) (by (with_reducible repeat (first | refine qag ?_ _ | refine qaj ?_ | refine qaf ?_ _)); exact BK145.out) hb); have n2_ := qab.mk (qam (g := gb146) (o := .cells #[.slice A1_0 l1_0.length c1_0] 36 (0, 0)) (by (with_reducible repeat (first | refine qag ?_ _ | refine qaj ?_ | refine qaf ?_ _)); exact BK146.out) hb); have n3_ := qab.mk (qak (by repeat (first | (with_reducible first | exact HB.out | apply qad | apply qaa | apply qac | refine qae ?_ GE145.out | refine qae ?_ GE146.out) | exact HB.out)) hb); clear BK145; clear BK146; clear HB; have HO152 := n0_; have BK145 := n1_; have BK146 := n2_; have HB := n3_; clear n0_ n1_ n2_ n3_; clear hb ho31))
    go_loopg [9, 10] kj4 (fun kq v9 v10 w' => ∃ (x9_2 : List Int) (x10_2 : Int), v10 = .int .i64 x10_2 ∧ qab (impl_WalkTable.l0 kq a3 x9_2 x10_2 a0_0 a0_1 l0_2 l1_0 = some r) ∧ qab (kq ≤ kj4) ∧ qab (Kd.R (Kd.int .i64) 3 w' w.heap.size (fun _ => True) v9 x9_2) ∧ qab (w'.heap[gb145]? = some (.cells #[.int .i64 a0_0, .int .i64 a0_1, (.slice A0_2 l0_2.length c0_2)] 34 (0, 0))) ∧ qab (w'.heap[gb146]? = some (.cells #[(.slice A1_0 l1_0.length c1_0)] 36 (0, 0))) ∧ qab (Below w.heap.size w w'))
    case atStart => exact ⟨(y150), (a2), (by first | rfl | (simp; done) | (simp [*]; done)), H', ⟨Nat.le_refl _⟩, ⟨by (with_reducible repeat (first | apply Kd.qao | apply Kd.qan | apply Kd.qap)); exact HO152.out⟩, ⟨by (with_reducible repeat (first | refine qag ?_ _ | refine qaj ?_ | refine qaf ?_ _)); exact BK145.out⟩, ⟨by (with_reducible repeat (first | refine qag ?_ _ | refine qaj ?_ | refine qaf ?_ _)); exact BK146.out⟩, ⟨by repeat (first | (with_reducible first | exact HB.out | apply qad | apply qaa | apply qac | refine qae ?_ GE145.out | refine qae ?_ GE146.out) | exact HB.out)⟩⟩
    case round =>
     clear H'
     try clear c1
     try clear c2
     try clear p2
     try clear c5
     try clear c8
     try clear c8b0
     try clear c8b1
     try clear c10
     try clear c12
     try clear c14
     try clear c21
     try clear c26
     try clear c29
     try clear hcz15_0
     try clear hcz15_1
     try clear hcz15_2
     try clear hcz17_0
     try clear hcz17_1
     try clear hcz17_2
     try clear hcz19_0
     try clear hcz19_1
     try clear hcz19_2
     try clear hcz22_0
     try clear hcz22_1
     try clear hcz22_2
     try clear hcz24_0
     try clear hcz24_1
     try clear hcz24_2
     try clear hcz27_0
     try clear hcz27_1
     try clear hcz27_2
     try clear hfz15_0
     try clear hfz15_1
     try clear hfz15_2
     try clear hfz17_0
     try clear hfz17_1
     try clear hfz17_2
     try clear hfz19_0
     try clear hfz19_1
     try clear hfz19_2
     try clear hfz22_0
     try clear hfz22_1
     try clear hfz22_2
     try clear hfz24_0
     try clear hfz24_1
     try clear hfz24_2
     try clear hfz27_0
     try clear hfz27_1
     try clear hfz27_2
     try clear p2
     obtain ⟨x9_2, x10_2, rfl, HA, HK2, HO_9, BK145, BK146, HB⟩ := hrel
     cases gk with
     | zero => exact absurd HA.out (by simp [impl_WalkTable.l0])
     | succ k2 =>
      have H := HA.out
      clear HA
      simp only [impl_WalkTable.l0] at H
      replace H := Option.bind_eq_some_iff.mp H
      obtain ⟨t153, A320, H⟩ := H
      try dsimp only at H
      have A32 := qab.mk A320
      clear A320
      by_cases c33 : t153 < 0
      ·rw [if_pos c33] at H
       have c33b0 : decide (t153 < 0) = true := decide_eq_true c33
       clear c33
       obtain rfl := Option.some.inj H
       have hnb34 := NB145_146.out
       have hnc34 := NB146_145.out
       have hcz35_0 : wr.cell? ⟨gb145, 0, none⟩ = some (.int .i64 a0_0) := (qai BK145.out 0).trans rfl
       have hcz35_1 : wr.cell? ⟨gb145, 1, none⟩ = some (.int .i64 a0_1) := (qai BK145.out 1).trans rfl
       have hcz35_2 : wr.cell? ⟨gb145, 2, none⟩ = some (.slice A0_2 l0_2.length c0_2) := (qai BK145.out 2).trans rfl
       have hfz35_0 := qah BK145.out 0
       have hfz35_1 := qah BK145.out 1
       have hfz35_2 := qah BK145.out 2
       have hcz36_0 : wr.cell? ⟨gb146, 0, none⟩ = some (.slice A1_0 l1_0.length c1_0) := (qai BK146.out 0).trans rfl
       have hfz36_0 := qah BK146.out 0
       go_wp2_with (first | ((with_reducible refine qaq (f := 109) rfl ?_); refine qbe (some 40) rfl rfl Try.func109 (by kernel_rfl) rfl #[.agg #[.int .i64 a0_0, .int .i64 a0_1, .slice A0_2 l0_2.length c0_2], .agg #[.slice A1_0 l1_0.length c1_0], .int .i64 x10_2, .int .i64 a3] rfl (by (try simp only [List.map_toArray, List.map_cons, List.map_nil]); first | done | rfl | (simp only [List.length_drop, List.length_take]; rfl)) ?_; (with_reducible refine (impl_PortAt.calls k2 a0_0 a0_1 _ _ l0_2 _ _ l1_0 x10_2 a3 t153 _ ?side1 ?side2 ?side3 ?side4 A32.out).mono ?_); (case side1 => repeat (first | exact (Kd.qbf HR0_2.out HB.out) | (with_reducible first | refine Kd.qaz ?_ _ | refine Kd.qay ?_ _ | refine Kd.qbd ?_))); (case side2 => exact HC0_2.out); (case side3 => repeat (first | exact (Kd.qbf HR1_0.out HB.out) | (with_reducible first | refine Kd.qaz ?_ _ | refine Kd.qay ?_ _ | refine Kd.qbd ?_))); (case side4 => exact HC1_0.out); rintro e w37 ⟨rfl, hb⟩; refine ⟨_, rfl, ?_⟩; have n0_ := qab.mk (Kd.qav (by (with_reducible repeat (first | apply Kd.qao | apply Kd.qan | apply Kd.qap)); exact HO_9.out) hb); have n1_ := qab.mk (qam (g := gb145) (o := .cells #[.int .i64 a0_0, .int .i64 a0_1, .slice A0_2 l0_2.length c0_2] 34 (0, 0)) (by (with_reducible repeat (first | refine qag ?_ _ | refine qaj ?_ | refine qaf ?_ _)); exact BK145.out) hb); have n2_ := qab.mk (qam (g := gb146) (o := .cells #[.slice A1_0 l1_0.length c1_0] 36 (0, 0)) (by (with_reducible repeat (first | refine qag ?_ _ | refine qaj ?_ | refine qaf ?_ _)); exact BK146.out) hb); have n3_ := qab.mk (qak (by repeat (first | (with_reducible first | exact HB.out | apply qad | apply qaa | apply qac | refine qae ?_ GE145.out | refine qae ?_ GE146.out) | exact HB.out)) hb); clear HO_9; clear BK145; clear BK146; clear HB; have HO_9 := n0_; have BK145 := n1_; have BK146 := n2_; have HB := n3_; clear n0_ n1_ n2_ n3_; (try clear hb); (try clear hb2); (try clear hk); (try clear hi)))
       go_ret
       exact ⟨_, by first | rfl | (simp [errW_none, errW_some] <;> rfl) | (simp [*, errW_none, errW_some] <;> rfl), by first | exact Kd.R_nil _ _ _ _ _ | exact Kd.N_nil _ _ _ _ _ | exact Kd.V_nil _ _ _ _ _ | exact Kd.Q_nil _ _ _ _ _ | exact Kd.S_nil _ _ _ _ _, by repeat (first | (with_reducible first | exact HB.out | apply qad | apply qaa | apply qac | refine qae ?_ GE145.out | refine qae ?_ GE146.out) | exact HB.out)⟩
      ·rw [if_neg c33] at H
       have c33b0 : decide (t153 < 0) = false := decide_eq_false c33
       clear c33
       by_cases c38 : t153 = 4
       ·rw [if_pos c38] at H
        have c38b0 : (t153 == 4) = true := beq_iff_eq.mpr c38
        have c38b1 : (t153 != 4) = false := bne_eq_false_iff_eq.mpr c38
        clear c38
        by_cases c39 : x10_2 = a3
        ·rw [if_pos c39] at H
         have c39b0 : (x10_2 == a3) = true := beq_iff_eq.mpr c39
         have c39b1 : (x10_2 != a3) = false := bne_eq_false_iff_eq.mpr c39
         clear c39
         obtain rfl := Option.some.inj H
         have hnb40 := NB145_146.out
         have hnc40 := NB146_145.out
         have hcz41_0 : wr.cell? ⟨gb145, 0, none⟩ = some (.int .i64 a0_0) := (qai BK145.out 0).trans rfl
         have hcz41_1 : wr.cell? ⟨gb145, 1, none⟩ = some (.int .i64 a0_1) := (qai BK145.out 1).trans rfl
         have hcz41_2 : wr.cell? ⟨gb145, 2, none⟩ = some (.slice A0_2 l0_2.length c0_2) := (qai BK145.out 2).trans rfl
         have hfz41_0 := qah BK145.out 0
         have hfz41_1 := qah BK145.out 1
         have hfz41_2 := qah BK145.out 2
         have hcz42_0 : wr.cell? ⟨gb146, 0, none⟩ = some (.slice A1_0 l1_0.length c1_0) := (qai BK146.out 0).trans rfl
         have hfz42_0 := qah BK146.out 0
         go_wp2_with (first | ((with_reducible refine qaq (f := 109) rfl ?_); refine qbe (some 40) rfl rfl Try.func109 (by kernel_rfl) rfl #[.agg #[.int .i64 a0_0, .int .i64 a0_1, .slice A0_2 l0_2.length c0_2], .agg #[.slice A1_0 l1_0.length c1_0], .int .i64 x10_2, .int .i64 a3] rfl (by (try simp only [List.map_toArray, List.map_cons, List.map_nil]); first | done | rfl | (simp only [List.length_drop, List.length_take]; rfl)) ?_; (with_reducible refine (impl_PortAt.calls k2 a0_0 a0_1 _ _ l0_2 _ _ l1_0 x10_2 a3 t153 _ ?side1 ?side2 ?side3 ?side4 A32.out).mono ?_); (case side1 => repeat (first | exact (Kd.qbf HR0_2.out HB.out) | (with_reducible first | refine Kd.qaz ?_ _ | refine Kd.qay ?_ _ | refine Kd.qbd ?_))); (case side2 => exact HC0_2.out); (case side3 => repeat (first | exact (Kd.qbf HR1_0.out HB.out) | (with_reducible first | refine Kd.qaz ?_ _ | refine Kd.qay ?_ _ | refine Kd.qbd ?_))); (case side4 => exact HC1_0.out); rintro e w43 ⟨rfl, hb⟩; refine ⟨_, rfl, ?_⟩; have n0_ := qab.mk (Kd.qav (by (with_reducible repeat (first | apply Kd.qao | apply Kd.qan | apply Kd.qap)); exact HO_9.out) hb); have n1_ := qab.mk (qam (g := gb145) (o := .cells #[.int .i64 a0_0, .int .i64 a0_1, .slice A0_2 l0_2.length c0_2] 34 (0, 0)) (by (with_reducible repeat (first | refine qag ?_ _ | refine qaj ?_ | refine qaf ?_ _)); exact BK145.out) hb); have n2_ := qab.mk (qam (g := gb146) (o := .cells #[.slice A1_0 l1_0.length c1_0] 36 (0, 0)) (by (with_reducible repeat (first | refine qag ?_ _ | refine qaj ?_ | refine qaf ?_ _)); exact BK146.out) hb); have n3_ := qab.mk (qak (by repeat (first | (with_reducible first | exact HB.out | apply qad | apply qaa | apply qac | refine qae ?_ GE145.out | refine qae ?_ GE146.out) | exact HB.out)) hb); clear HO_9; clear BK145; clear BK146; clear HB; have HO_9 := n0_; have BK145 := n1_; have BK146 := n2_; have HB := n3_; clear n0_ n1_ n2_ n3_; (try clear hb); (try clear hb2); (try clear hk); (try clear hi)))
         go_ret
         exact ⟨_, by first | rfl | (simp [errW_none, errW_some] <;> rfl) | (simp [*, errW_none, errW_some] <;> rfl), by (with_reducible repeat (first | apply Kd.qao | apply Kd.qan | apply Kd.qap)); exact HO_9.out, by repeat (first | (with_reducible first | exact HB.out | apply qad | apply qaa | apply qac | refine qae ?_ GE145.out | refine qae ?_ GE146.out) | exact HB.out)⟩
        ·rw [if_neg c39] at H
         have c39b0 : (x10_2 == a3) = false := beq_eq_false_iff_ne.mpr c39
         have c39b1 : (x10_2 != a3) = true := bne_iff_ne.mpr c39
         obtain rfl := Option.some.inj H
         have hnb44 := NB145_146.out
         have hnc44 := NB146_145.out
         have hcz45_0 : wr.cell? ⟨gb145, 0, none⟩ = some (.int .i64 a0_0) := (qai BK145.out 0).trans rfl
         have hcz45_1 : wr.cell? ⟨gb145, 1, none⟩ = some (.int .i64 a0_1) := (qai BK145.out 1).trans rfl
         have hcz45_2 : wr.cell? ⟨gb145, 2, none⟩ = some (.slice A0_2 l0_2.length c0_2) := (qai BK145.out 2).trans rfl
         have hfz45_0 := qah BK145.out 0
         have hfz45_1 := qah BK145.out 1
         have hfz45_2 := qah BK145.out 2
         have hcz46_0 : wr.cell? ⟨gb146, 0, none⟩ = some (.slice A1_0 l1_0.length c1_0) := (qai BK146.out 0).trans rfl
         have hfz46_0 := qah BK146.out 0
         go_wp2_with (first | ((with_reducible refine qaq (f := 109) rfl ?_); refine qbe (some 40) rfl rfl Try.func109 (by kernel_rfl) rfl #[.agg #[.int .i64 a0_0, .int .i64 a0_1, .slice A0_2 l0_2.length c0_2], .agg #[.slice A1_0 l1_0.length c1_0], .int .i64 x10_2, .int .i64 a3] rfl (by (try simp only [List.map_toArray, List.map_cons, List.map_nil]); first | done | rfl | (simp only [List.length_drop, List.length_take]; rfl)) ?_; (with_reducible refine (impl_PortAt.calls k2 a0_0 a0_1 _ _ l0_2 _ _ l1_0 x10_2 a3 t153 _ ?side1 ?side2 ?side3 ?side4 A32.out).mono ?_); (case side1 => repeat (first | exact (Kd.qbf HR0_2.out HB.out) | (with_reducible first | refine Kd.qaz ?_ _ | refine Kd.qay ?_ _ | refine Kd.qbd ?_))); (case side2 => exact HC0_2.out); (case side3 => repeat (first | exact (Kd.qbf HR1_0.out HB.out) | (with_reducible first | refine Kd.qaz ?_ _ | refine Kd.qay ?_ _ | refine Kd.qbd ?_))); (case side4 => exact HC1_0.out); rintro e w47 ⟨rfl, hb⟩; refine ⟨_, rfl, ?_⟩; have n0_ := qab.mk (Kd.qav (by (with_reducible repeat (first | apply Kd.qao | apply Kd.qan | apply Kd.qap)); exact HO_9.out) hb); have n1_ := qab.mk (qam (g := gb145) (o := .cells #[.int .i64 a0_0, .int .i64 a0_1, .slice A0_2 l0_2.length c0_2] 34 (0, 0)) (by (with_reducible repeat (first | refine qag ?_ _ | refine qaj ?_ | refine qaf ?_ _)); exact BK145.out) hb); have n2_ := qab.mk (qam (g := gb146) (o := .cells #[.slice A1_0 l1_0.length c1_0] 36 (0, 0)) (by (with_reducible repeat (first | refine qag ?_ _ | refine qaj ?_ | refine qaf ?_ _)); exact BK146.out) hb); have n3_ := qab.mk (qak (by repeat (first | (with_reducible first | exact HB.out | apply qad | apply qaa | apply qac | refine qae ?_ GE145.out | refine qae ?_ GE146.out) | exact HB.out)) hb); clear HO_9; clear BK145; clear BK146; clear HB; have HO_9 := n0_; have BK145 := n1_; have BK146 := n2_; have HB := n3_; clear n0_ n1_ n2_ n3_; (try clear hb); (try clear hb2); (try clear hk); (try clear hi)))
         go_ret
         exact ⟨_, by first | rfl | (simp [errW_none, errW_some] <;> rfl) | (simp [*, errW_none, errW_some] <;> rfl), by first | exact Kd.R_nil _ _ _ _ _ | exact Kd.N_nil _ _ _ _ _ | exact Kd.V_nil _ _ _ _ _ | exact Kd.Q_nil _ _ _ _ _ | exact Kd.S_nil _ _ _ _ _, by repeat (first | (with_reducible first | exact HB.out | apply qad | apply qaa | apply qac | refine qae ?_ GE145.out | refine qae ?_ GE146.out) | exact HB.out)⟩
       ·rw [if_neg c38] at H
        have c38b0 : (t153 == 4) = false := beq_eq_false_iff_ne.mpr c38
        have c38b1 : (t153 != 4) = true := bne_iff_ne.mpr c38
        replace H := Option.bind_eq_some_iff.mp H
        obtain ⟨t154, A480, H⟩ := H
        try dsimp only at H
        have A48 := qab.mk A480
        clear A480
        by_cases c49 : t154 = true
        ·subst c49
         have H1 := H
         rw [if_pos rfl] at H1
         clear H
         have H := H1
         clear H1
         replace H := Option.bind_eq_some_iff.mp H
         obtain ⟨t155, A500, H⟩ := H
         try dsimp only at H
         have A50 := qab.mk A500
         clear A500
         by_cases c51 : (x9_2.length : Int) = t155
         ·rw [if_pos c51] at H
          have c51b0 : ((x9_2.length : Int) == t155) = true := beq_iff_eq.mpr c51
          have c51b1 : ((x9_2.length : Int) != t155) = false := bne_eq_false_iff_eq.mpr c51
          clear c51
          obtain rfl := Option.some.inj H
          have hnb52 := NB145_146.out
          have hnc52 := NB146_145.out
          have hcz53_0 : wr.cell? ⟨gb145, 0, none⟩ = some (.int .i64 a0_0) := (qai BK145.out 0).trans rfl
          have hcz53_1 : wr.cell? ⟨gb145, 1, none⟩ = some (.int .i64 a0_1) := (qai BK145.out 1).trans rfl
          have hcz53_2 : wr.cell? ⟨gb145, 2, none⟩ = some (.slice A0_2 l0_2.length c0_2) := (qai BK145.out 2).trans rfl
          have hfz53_0 := qah BK145.out 0
          have hfz53_1 := qah BK145.out 1
          have hfz53_2 := qah BK145.out 2
          have hcz54_0 : wr.cell? ⟨gb146, 0, none⟩ = some (.slice A1_0 l1_0.length c1_0) := (qai BK146.out 0).trans rfl
          have hfz54_0 := qah BK146.out 0
          go_wp2_with (first | ((with_reducible refine qaq (f := 109) rfl ?_); refine qbe (some 40) rfl rfl Try.func109 (by kernel_rfl) rfl #[.agg #[.int .i64 a0_0, .int .i64 a0_1, .slice A0_2 l0_2.length c0_2], .agg #[.slice A1_0 l1_0.length c1_0], .int .i64 x10_2, .int .i64 a3] rfl (by (try simp only [List.map_toArray, List.map_cons, List.map_nil]); first | done | rfl | (simp only [List.length_drop, List.length_take]; rfl)) ?_; (with_reducible refine (impl_PortAt.calls k2 a0_0 a0_1 _ _ l0_2 _ _ l1_0 x10_2 a3 t153 _ ?side1 ?side2 ?side3 ?side4 A32.out).mono ?_); (case side1 => repeat (first | exact (Kd.qbf HR0_2.out HB.out) | (with_reducible first | refine Kd.qaz ?_ _ | refine Kd.qay ?_ _ | refine Kd.qbd ?_))); (case side2 => exact HC0_2.out); (case side3 => repeat (first | exact (Kd.qbf HR1_0.out HB.out) | (with_reducible first | refine Kd.qaz ?_ _ | refine Kd.qay ?_ _ | refine Kd.qbd ?_))); (case side4 => exact HC1_0.out); rintro e w55 ⟨rfl, hb⟩; refine ⟨_, rfl, ?_⟩; have n0_ := qab.mk (Kd.qav (by (with_reducible repeat (first | apply Kd.qao | apply Kd.qan | apply Kd.qap)); exact HO_9.out) hb); have n1_ := qab.mk (qam (g := gb145) (o := .cells #[.int .i64 a0_0, .int .i64 a0_1, .slice A0_2 l0_2.length c0_2] 34 (0, 0)) (by (with_reducible repeat (first | refine qag ?_ _ | refine qaj ?_ | refine qaf ?_ _)); exact BK145.out) hb); have n2_ := qab.mk (qam (g := gb146) (o := .cells #[.slice A1_0 l1_0.length c1_0] 36 (0, 0)) (by (with_reducible repeat (first | refine qag ?_ _ | refine qaj ?_ | refine qaf ?_ _)); exact BK146.out) hb); have n3_ := qab.mk (qak (by repeat (first | (with_reducible first | exact HB.out | apply qad | apply qaa | apply qac | refine qae ?_ GE145.out | refine qae ?_ GE146.out) | exact HB.out)) hb); clear HO_9; clear BK145; clear BK146; clear HB; have HO_9 := n0_; have BK145 := n1_; have BK146 := n2_; have HB := n3_; clear n0_ n1_ n2_ n3_; (try clear hb); (try clear hb2); (try clear hk); (try clear hi); have hcz56_0 : w55.cell? ⟨gb145, 0, none⟩ = some (.int .i64 a0_0) := (qai BK145.out 0).trans rfl; have hcz56_1 : w55.cell? ⟨gb145, 1, none⟩ = some (.int .i64 a0_1) := (qai BK145.out 1).trans rfl; have hcz56_2 : w55.cell? ⟨gb145, 2, none⟩ = some (.slice A0_2 l0_2.length c0_2) := (qai BK145.out 2).trans rfl; have hfz56_0 := qah BK145.out 0; have hfz56_1 := qah BK145.out 1; have hfz56_2 := qah BK145.out 2) | ((with_reducible refine qaq (f := 110) rfl ?_); refine qbe (some 57) rfl rfl Try.func110 (by kernel_rfl) rfl #[.agg #[.int .i64 a0_0, .int .i64 a0_1, .slice A0_2 l0_2.length c0_2], .int .i64 (wrap64 ((wrap64 (4 * x10_2)) + t153))] rfl (by (try simp only [List.map_toArray, List.map_cons, List.map_nil]); first | done | rfl | (simp only [List.length_drop, List.length_take]; rfl)) ?_; (with_reducible refine (impl_HasChannel.calls k2 a0_0 a0_1 _ _ l0_2 (wrap64 ((wrap64 (4 * x10_2)) + t153)) true _ ?side1 ?side2 A48.out).mono ?_); (case side1 => repeat (first | exact (Kd.qbf HR0_2.out HB.out) | (with_reducible first | refine Kd.qaz ?_ _ | refine Kd.qay ?_ _ | refine Kd.qbd ?_))); (case side2 => exact HC0_2.out); rintro e w57 ⟨rfl, hb⟩; refine ⟨_, rfl, ?_⟩; have n0_ := qab.mk (Kd.qav (by (with_reducible repeat (first | apply Kd.qao | apply Kd.qan | apply Kd.qap)); exact HO_9.out) hb); have n1_ := qab.mk (qam (g := gb145) (o := .cells #[.int .i64 a0_0, .int .i64 a0_1, .slice A0_2 l0_2.length c0_2] 34 (0, 0)) (by (with_reducible repeat (first | refine qag ?_ _ | refine qaj ?_ | refine qaf ?_ _)); exact BK145.out) hb); have n2_ := qab.mk (qam (g := gb146) (o := .cells #[.slice A1_0 l1_0.length c1_0] 36 (0, 0)) (by (with_reducible repeat (first | refine qag ?_ _ | refine qaj ?_ | refine qaf ?_ _)); exact BK146.out) hb); have n3_ := qab.mk (qak (by repeat (first | (with_reducible first | exact HB.out | apply qad | apply qaa | apply qac | refine qae ?_ GE145.out | refine qae ?_ GE146.out) | exact HB.out)) hb); clear HO_9; clear BK145; clear BK146; clear HB; have HO_9 := n0_; have BK145 := n1_; have BK146 := n2_; have HB := n3_; clear n0_ n1_ n2_ n3_; (try clear hb); (try clear hb2); (try clear hk); (try clear hi); obtain ⟨Ao58, co58, eo58⟩ := Kd.qbj HO_9.out; subst eo58; have hcz59_0 : w57.cell? ⟨gb145, 0, none⟩ = some (.int .i64 a0_0) := (qai BK145.out 0).trans rfl; have hcz59_1 : w57.cell? ⟨gb145, 1, none⟩ = some (.int .i64 a0_1) := (qai BK145.out 1).trans rfl; have hcz59_2 : w57.cell? ⟨gb145, 2, none⟩ = some (.slice A0_2 l0_2.length c0_2) := (qai BK145.out 2).trans rfl; have hfz59_0 := qah BK145.out 0; have hfz59_1 := qah BK145.out 1; have hfz59_2 := qah BK145.out 2) | (go_at_call 99; (with_reducible refine (impl_NodeCount.calls a0_0 a0_1 t155 _ A50.out).mono ?_); rintro e w60 ⟨rfl, hb⟩; have n0_ := qab.mk (Kd.qav (by (with_reducible repeat (first | apply Kd.qao | apply Kd.qan | apply Kd.qap)); exact HO_9.out) hb); have n1_ := qab.mk (qam (g := gb145) (o := .cells #[.int .i64 a0_0, .int .i64 a0_1, .slice A0_2 l0_2.length c0_2] 34 (0, 0)) (by (with_reducible repeat (first | refine qag ?_ _ | refine qaj ?_ | refine qaf ?_ _)); exact BK145.out) hb); have n2_ := qab.mk (qam (g := gb146) (o := .cells #[.slice A1_0 l1_0.length c1_0] 36 (0, 0)) (by (with_reducible repeat (first | refine qag ?_ _ | refine qaj ?_ | refine qaf ?_ _)); exact BK146.out) hb); have n3_ := qab.mk (qak (by repeat (first | (with_reducible first | exact HB.out | apply qad | apply qaa | apply qac | refine qae ?_ GE145.out | refine qae ?_ GE146.out) | exact HB.out)) hb); clear HO_9; clear BK145; clear BK146; clear HB; have HO_9 := n0_; have BK145 := n1_; have BK146 := n2_; have HB := n3_; clear n0_ n1_ n2_ n3_; (try clear hb); (try clear hb2); (try clear hk); (try clear hi)))
          go_ret
          exact ⟨_, by first | rfl | (simp [errW_none, errW_some] <;> rfl) | (simp [*, errW_none, errW_some] <;> rfl), by first | exact Kd.R_nil _ _ _ _ _ | exact Kd.N_nil _ _ _ _ _ | exact Kd.V_nil _ _ _ _ _ | exact Kd.Q_nil _ _ _ _ _ | exact Kd.S_nil _ _ _ _ _, by repeat (first | (with_reducible first | exact HB.out | apply qad | apply qaa | apply qac | refine qae ?_ GE145.out | refine qae ?_ GE146.out) | exact HB.out)⟩
         ·rw [if_neg c51] at H
          have c51b0 : ((x9_2.length : Int) == t155) = false := beq_eq_false_iff_ne.mpr c51
          have c51b1 : ((x9_2.length : Int) != t155) = true := bne_iff_ne.mpr c51
          by_cases c61 : x9_2.length < 17592186044416
          ·rw [if_pos c61] at H
           have LMc61 := qab.mk c61
           clear c61
           obtain ⟨y156, hy156⟩ : ∃ y_ : List Int, y_ = (x9_2 ++ [wrap64 ((wrap64 (4 * x10_2)) + t153)]) := ⟨_, rfl⟩
           replace H : ((impl_endOf.f a0_0 a0_1 l0_2 (wrap64 ((wrap64 (4 * x10_2)) + t153))).bind fun t159 => (impl_WalkTable.l0 k2 a3 y156 t159 a0_0 a0_1 l0_2 l1_0)) = some r := by first | (rw [hy156]; with_reducible exact H) | (have H2_ := (Option.bind_some _ _).symm.trans H; rw [hy156]; with_reducible exact H2_) | (have H2_ := (Option.bind_some _ _).symm.trans H; with_reducible exact H2_) | with_reducible exact H | (rw [hy156]; exact H) | exact H
           have Ny156 := qab.mk hy156
           clear hy156
           replace H := Option.bind_eq_some_iff.mp H
           obtain ⟨t159, A620, H⟩ := H
           try dsimp only at H
           have A62 := qab.mk A620
           clear A620
           have H' := qab.mk H
           clear H
           have hnb63 := NB145_146.out
           have hnc63 := NB146_145.out
           have hcz64_0 : wr.cell? ⟨gb145, 0, none⟩ = some (.int .i64 a0_0) := (qai BK145.out 0).trans rfl
           have hcz64_1 : wr.cell? ⟨gb145, 1, none⟩ = some (.int .i64 a0_1) := (qai BK145.out 1).trans rfl
           have hcz64_2 : wr.cell? ⟨gb145, 2, none⟩ = some (.slice A0_2 l0_2.length c0_2) := (qai BK145.out 2).trans rfl
           have hfz64_0 := qah BK145.out 0
           have hfz64_1 := qah BK145.out 1
           have hfz64_2 := qah BK145.out 2
           have hcz65_0 : wr.cell? ⟨gb146, 0, none⟩ = some (.slice A1_0 l1_0.length c1_0) := (qai BK146.out 0).trans rfl
           have hfz65_0 := qah BK146.out 0
           go_wp2_with (first | ((with_reducible refine qaq (f := 109) rfl ?_); refine qbe (some 40) rfl rfl Try.func109 (by kernel_rfl) rfl #[.agg #[.int .i64 a0_0, .int .i64 a0_1, .slice A0_2 l0_2.length c0_2], .agg #[.slice A1_0 l1_0.length c1_0], .int .i64 x10_2, .int .i64 a3] rfl (by (try simp only [List.map_toArray, List.map_cons, List.map_nil]); first | done | rfl | (simp only [List.length_drop, List.length_take]; rfl)) ?_; (with_reducible refine (impl_PortAt.calls k2 a0_0 a0_1 _ _ l0_2 _ _ l1_0 x10_2 a3 t153 _ ?side1 ?side2 ?side3 ?side4 A32.out).mono ?_); (case side1 => repeat (first | exact (Kd.qbf HR0_2.out HB.out) | (with_reducible first | refine Kd.qaz ?_ _ | refine Kd.qay ?_ _ | refine Kd.qbd ?_))); (case side2 => exact HC0_2.out); (case side3 => repeat (first | exact (Kd.qbf HR1_0.out HB.out) | (with_reducible first | refine Kd.qaz ?_ _ | refine Kd.qay ?_ _ | refine Kd.qbd ?_))); (case side4 => exact HC1_0.out); rintro e w66 ⟨rfl, hb⟩; refine ⟨_, rfl, ?_⟩; have n0_ := qab.mk (Kd.qav (by (with_reducible repeat (first | apply Kd.qao | apply Kd.qan | apply Kd.qap)); exact HO_9.out) hb); have n1_ := qab.mk (qam (g := gb145) (o := .cells #[.int .i64 a0_0, .int .i64 a0_1, .slice A0_2 l0_2.length c0_2] 34 (0, 0)) (by (with_reducible repeat (first | refine qag ?_ _ | refine qaj ?_ | refine qaf ?_ _)); exact BK145.out) hb); have n2_ := qab.mk (qam (g := gb146) (o := .cells #[.slice A1_0 l1_0.length c1_0] 36 (0, 0)) (by (with_reducible repeat (first | refine qag ?_ _ | refine qaj ?_ | refine qaf ?_ _)); exact BK146.out) hb); have n3_ := qab.mk (qak (by repeat (first | (with_reducible first | exact HB.out | apply qad | apply qaa | apply qac | refine qae ?_ GE145.out | refine qae ?_ GE146.out) | exact HB.out)) hb); clear HO_9; clear BK145; clear BK146; clear HB; have HO_9 := n0_; have BK145 := n1_; have BK146 := n2_; have HB := n3_; clear n0_ n1_ n2_ n3_; (try clear hb); (try clear hb2); (try clear hk); (try clear hi); have hcz67_0 : w66.cell? ⟨gb145, 0, none⟩ = some (.int .i64 a0_0) := (qai BK145.out 0).trans rfl; have hcz67_1 : w66.cell? ⟨gb145, 1, none⟩ = some (.int .i64 a0_1) := (qai BK145.out 1).trans rfl; have hcz67_2 : w66.cell? ⟨gb145, 2, none⟩ = some (.slice A0_2 l0_2.length c0_2) := (qai BK145.out 2).trans rfl; have hfz67_0 := qah BK145.out 0; have hfz67_1 := qah BK145.out 1; have hfz67_2 := qah BK145.out 2) | ((with_reducible refine qaq (f := 110) rfl ?_); refine qbe (some 57) rfl rfl Try.func110 (by kernel_rfl) rfl #[.agg #[.int .i64 a0_0, .int .i64 a0_1, .slice A0_2 l0_2.length c0_2], .int .i64 (wrap64 ((wrap64 (4 * x10_2)) + t153))] rfl (by (try simp only [List.map_toArray, List.map_cons, List.map_nil]); first | done | rfl | (simp only [List.length_drop, List.length_take]; rfl)) ?_; (with_reducible refine (impl_HasChannel.calls k2 a0_0 a0_1 _ _ l0_2 (wrap64 ((wrap64 (4 * x10_2)) + t153)) true _ ?side1 ?side2 A48.out).mono ?_); (case side1 => repeat (first | exact (Kd.qbf HR0_2.out HB.out) | (with_reducible first | refine Kd.qaz ?_ _ | refine Kd.qay ?_ _ | refine Kd.qbd ?_))); (case side2 => exact HC0_2.out); rintro e w68 ⟨rfl, hb⟩; refine ⟨_, rfl, ?_⟩; have n0_ := qab.mk (Kd.qav (by (with_reducible repeat (first | apply Kd.qao | apply Kd.qan | apply Kd.qap)); exact HO_9.out) hb); have n1_ := qab.mk (qam (g := gb145) (o := .cells #[.int .i64 a0_0, .int .i64 a0_1, .slice A0_2 l0_2.length c0_2] 34 (0, 0)) (by (with_reducible repeat (first | refine qag ?_ _ | refine qaj ?_ | refine qaf ?_ _)); exact BK145.out) hb); have n2_ := qab.mk (qam (g := gb146) (o := .cells #[.slice A1_0 l1_0.length c1_0] 36 (0, 0)) (by (with_reducible repeat (first | refine qag ?_ _ | refine qaj ?_ | refine qaf ?_ _)); exact BK146.out) hb); have n3_ := qab.mk (qak (by repeat (first | (with_reducible first | exact HB.out | apply qad | apply qaa | apply qac | refine qae ?_ GE145.out | refine qae ?_ GE146.out) | exact HB.out)) hb); clear HO_9; clear BK145; clear BK146; clear HB; have HO_9 := n0_; have BK145 := n1_; have BK146 := n2_; have HB := n3_; clear n0_ n1_ n2_ n3_; (try clear hb); (try clear hb2); (try clear hk); (try clear hi); obtain ⟨Ao69, co69, eo69⟩ := Kd.qbj HO_9.out; subst eo69; have hcz70_0 : w68.cell? ⟨gb145, 0, none⟩ = some (.int .i64 a0_0) := (qai BK145.out 0).trans rfl; have hcz70_1 : w68.cell? ⟨gb145, 1, none⟩ = some (.int .i64 a0_1) := (qai BK145.out 1).trans rfl; have hcz70_2 : w68.cell? ⟨gb145, 2, none⟩ = some (.slice A0_2 l0_2.length c0_2) := (qai BK145.out 2).trans rfl; have hfz70_0 := qah BK145.out 0; have hfz70_1 := qah BK145.out 1; have hfz70_2 := qah BK145.out 2) | (go_at_call 99; (with_reducible refine (impl_NodeCount.calls a0_0 a0_1 t155 _ A50.out).mono ?_); rintro e w71 ⟨rfl, hb⟩; have n0_ := qab.mk (Kd.qav (by (with_reducible repeat (first | apply Kd.qao | apply Kd.qan | apply Kd.qap)); exact HO_9.out) hb); have n1_ := qab.mk (qam (g := gb145) (o := .cells #[.int .i64 a0_0, .int .i64 a0_1, .slice A0_2 l0_2.length c0_2] 34 (0, 0)) (by (with_reducible repeat (first | refine qag ?_ _ | refine qaj ?_ | refine qaf ?_ _)); exact BK145.out) hb); have n2_ := qab.mk (qam (g := gb146) (o := .cells #[.slice A1_0 l1_0.length c1_0] 36 (0, 0)) (by (with_reducible repeat (first | refine qag ?_ _ | refine qaj ?_ | refine qaf ?_ _)); exact BK146.out) hb); have n3_ := qab.mk (qak (by repeat (first | (with_reducible first | exact HB.out | apply qad | apply qaa | apply qac | refine qae ?_ GE145.out | refine qae ?_ GE146.out) | exact HB.out)) hb); clear HO_9; clear BK145; clear BK146; clear HB; have HO_9 := n0_; have BK145 := n1_; have BK146 := n2_; have HB := n3_; clear n0_ n1_ n2_ n3_; (try clear hb); (try clear hb2); (try clear hk); (try clear hi)) | ((with_reducible refine qbs (b := .append) (xs := #[.tmp 67, .tmp 72]) rfl ?_); (try (refine qbh (by rfl) ?_; dsimp only)); at_builtin; refine Kd.qcn (Kd.int .i64) (w0 := w) w.heap.size rfl (.tmp 67) (.tmp 72) 24 3 (.int .i64 0) 8 rfl Try.underlying24 info3 rfl (by decide) (by omega) (.slice Ao69 x9_2.length co69) x9_2 (wrap64 ((wrap64 (4 * x10_2)) + t153)) [.int .i64 (wrap64 ((wrap64 (4 * x10_2)) + t153))] (fun _ => True) (fun _ => False) rfl rfl ?aP (fun _ hk => hk.elim) ?aF ?aO ?aB ?aS ?aL ?_; (case aP => exact rfl); (case aB => exact (by repeat (first | (with_reducible first | exact HB.out | apply qad | apply qaa | apply qac | refine qae ?_ GE145.out | refine qae ?_ GE146.out) | exact HB.out))); (case aF => exact (fun _ _ => trivial)); (case aO => exact (by (with_reducible repeat (first | apply Kd.qao | apply Kd.qan | apply Kd.qap)); exact HO_9.out)); (case aS => exact (qal (by repeat (first | (with_reducible first | exact HB.out | apply qad | apply qaa | apply qac | refine qae ?_ GE145.out | refine qae ?_ GE146.out) | exact HB.out)))); (case aL => have := LMc61.out; omega); intro v157 w72 ho hb hg hat; rw [← Ny156.out] at ho; have n0_ := qab.mk (qbr (g := gb145) (o := .cells #[.int .i64 a0_0, .int .i64 a0_1, .slice A0_2 l0_2.length c0_2] 34 (0, 0)) (by (with_reducible repeat (first | refine qag ?_ _ | refine qaj ?_ | refine qaf ?_ _)); exact BK145.out) hg (Kd.R_ne HO_9.out BK145.out (by decide))); have n1_ := qab.mk (qbr (g := gb146) (o := .cells #[.slice A1_0 l1_0.length c1_0] 36 (0, 0)) (by (with_reducible repeat (first | refine qag ?_ _ | refine qaj ?_ | refine qaf ?_ _)); exact BK146.out) hg (Kd.R_ne HO_9.out BK146.out (by decide))); have n2_ := qab.mk (hb); have n3_ := qab.mk (ho); clear BK145; clear BK146; clear HB; clear HO_9; have BK145 := n0_; have BK146 := n1_; have HB := n2_; have HO158 := n3_; clear n0_ n1_ n2_ n3_; clear ho hb hg hat; have hcz73_0 : w72.cell? ⟨gb145, 0, none⟩ = some (.int .i64 a0_0) := (qai BK145.out 0).trans rfl; have hcz73_1 : w72.cell? ⟨gb145, 1, none⟩ = some (.int .i64 a0_1) := (qai BK145.out 1).trans rfl; have hcz73_2 : w72.cell? ⟨gb145, 2, none⟩ = some (.slice A0_2 l0_2.length c0_2) := (qai BK145.out 2).trans rfl; have hfz73_0 := qah BK145.out 0; have hfz73_1 := qah BK145.out 1; have hfz73_2 := qah BK145.out 2) | ((with_reducible refine qaq (f := 111) rfl ?_); refine qbe (some 79) rfl rfl Try.func111 (by kernel_rfl) rfl #[.agg #[.int .i64 a0_0, .int .i64 a0_1, .slice A0_2 l0_2.length c0_2], .int .i64 (wrap64 ((wrap64 (4 * x10_2)) + t153))] rfl (by (try simp only [List.map_toArray, List.map_cons, List.map_nil]); first | done | rfl | (simp only [List.length_drop, List.length_take]; rfl)) ?_; (with_reducible refine (impl_endOf.calls a0_0 a0_1 _ _ l0_2 (wrap64 ((wrap64 (4 * x10_2)) + t153)) t159 _ ?side1 ?side2 A62.out).mono ?_); (case side1 => repeat (first | exact (Kd.qbf HR0_2.out HB.out) | (with_reducible first | refine Kd.qaz ?_ _ | refine Kd.qay ?_ _ | refine Kd.qbd ?_))); (case side2 => exact HC0_2.out); rintro e w74 ⟨rfl, hb⟩; refine ⟨_, rfl, ?_⟩; have n0_ := qab.mk (Kd.qav (by (with_reducible repeat (first | apply Kd.qao | apply Kd.qan | apply Kd.qap)); exact HO158.out) hb); have n1_ := qab.mk (qam (g := gb145) (o := .cells #[.int .i64 a0_0, .int .i64 a0_1, .slice A0_2 l0_2.length c0_2] 34 (0, 0)) (by (with_reducible repeat (first | refine qag ?_ _ | refine qaj ?_ | refine qaf ?_ _)); exact BK145.out) hb); have n2_ := qab.mk (qam (g := gb146) (o := .cells #[.slice A1_0 l1_0.length c1_0] 36 (0, 0)) (by (with_reducible repeat (first | refine qag ?_ _ | refine qaj ?_ | refine qaf ?_ _)); exact BK146.out) hb); have n3_ := qab.mk (qak (by repeat (first | (with_reducible first | exact HB.out | apply qad | apply qaa | apply qac | refine qae ?_ GE145.out | refine qae ?_ GE146.out) | exact HB.out)) hb); clear HO158; clear BK145; clear BK146; clear HB; have HO158 := n0_; have BK145 := n1_; have BK146 := n2_; have HB := n3_; clear n0_ n1_ n2_ n3_; (try clear hb); (try clear hb2); (try clear hk); (try clear hi)))
           go_roundg k2
           case measure => have := HJ4.out; have := HK2.out; omega
           case rel => exact ⟨(y156), (t159), (by first | rfl | (simp; done) | (simp [*]; done)), H', ⟨by have := HJ4.out; have := HK2.out; omega⟩, ⟨by (with_reducible repeat (first | apply Kd.qao | apply Kd.qan | apply Kd.qap)); exact HO158.out⟩, ⟨by (with_reducible repeat (first | refine qag ?_ _ | refine qaj ?_ | refine qaf ?_ _)); exact BK145.out⟩, ⟨by (with_reducible repeat (first | refine qag ?_ _ | refine qaj ?_ | refine qaf ?_ _)); exact BK146.out⟩, ⟨by repeat (first | (with_reducible first | exact HB.out | apply qad | apply qaa | apply qac | refine qae ?_ GE145.out | refine qae ?_ GE146.out) | exact HB.out)⟩⟩
          ·rw [if_neg c61] at H
           exact absurd H (by simp)
        ·replace c49 := Bool.eq_false_iff.mpr c49
         subst c49
         have H1 := H
         rw [if_neg (show ¬ (false = true) by decide)] at H1
         clear H
         have H := H1
         clear H1
         obtain rfl := Option.some.inj H
         have hnb75 := NB145_146.out
         have hnc75 := NB146_145.out
         have hcz76_0 : wr.cell? ⟨gb145, 0, none⟩ = some (.int .i64 a0_0) := (qai BK145.out 0).trans rfl
         have hcz76_1 : wr.cell? ⟨gb145, 1, none⟩ = some (.int .i64 a0_1) := (qai BK145.out 1).trans rfl
         have hcz76_2 : wr.cell? ⟨gb145, 2, none⟩ = some (.slice A0_2 l0_2.length c0_2) := (qai BK145.out 2).trans rfl
         have hfz76_0 := qah BK145.out 0
         have hfz76_1 := qah BK145.out 1
         have hfz76_2 := qah BK145.out 2
         have hcz77_0 : wr.cell? ⟨gb146, 0, none⟩ = some (.slice A1_0 l1_0.length c1_0) := (qai BK146.out 0).trans rfl
         have hfz77_0 := qah BK146.out 0
         go_wp2_with (first | ((with_reducible refine qaq (f := 109) rfl ?_); refine qbe (some 40) rfl rfl Try.func109 (by kernel_rfl) rfl #[.agg #[.int .i64 a0_0, .int .i64 a0_1, .slice A0_2 l0_2.length c0_2], .agg #[.slice A1_0 l1_0.length c1_0], .int .i64 x10_2, .int .i64 a3] rfl (by (try simp only [List.map_toArray, List.map_cons, List.map_nil]); first | done | rfl | (simp only [List.length_drop, List.length_take]; rfl)) ?_; (with_reducible refine (impl_PortAt.calls k2 a0_0 a0_1 _ _ l0_2 _ _ l1_0 x10_2 a3 t153 _ ?side1 ?side2 ?side3 ?side4 A32.out).mono ?_); (case side1 => repeat (first | exact (Kd.qbf HR0_2.out HB.out) | (with_reducible first | refine Kd.qaz ?_ _ | refine Kd.qay ?_ _ | refine Kd.qbd ?_))); (case side2 => exact HC0_2.out); (case side3 => repeat (first | exact (Kd.qbf HR1_0.out HB.out) | (with_reducible first | refine Kd.qaz ?_ _ | refine Kd.qay ?_ _ | refine Kd.qbd ?_))); (case side4 => exact HC1_0.out); rintro e w78 ⟨rfl, hb⟩; refine ⟨_, rfl, ?_⟩; have n0_ := qab.mk (Kd.qav (by (with_reducible repeat (first | apply Kd.qao | apply Kd.qan | apply Kd.qap)); exact HO_9.out) hb); have n1_ := qab.mk (qam (g := gb145) (o := .cells #[.int .i64 a0_0, .int .i64 a0_1, .slice A0_2 l0_2.length c0_2] 34 (0, 0)) (by (with_reducible repeat (first | refine qag ?_ _ | refine qaj ?_ | refine qaf ?_ _)); exact BK145.out) hb); have n2_ := qab.mk (qam (g := gb146) (o := .cells #[.slice A1_0 l1_0.length c1_0] 36 (0, 0)) (by (with_reducible repeat (first | refine qag ?_ _ | refine qaj ?_ | refine qaf ?_ _)); exact BK146.out) hb); have n3_ := qab.mk (qak (by repeat (first | (with_reducible first | exact HB.out | apply qad | apply qaa | apply qac | refine qae ?_ GE145.out | refine qae ?_ GE146.out) | exact HB.out)) hb); clear HO_9; clear BK145; clear BK146; clear HB; have HO_9 := n0_; have BK145 := n1_; have BK146 := n2_; have HB := n3_; clear n0_ n1_ n2_ n3_; (try clear hb); (try clear hb2); (try clear hk); (try clear hi); have hcz79_0 : w78.cell? ⟨gb145, 0, none⟩ = some (.int .i64 a0_0) := (qai BK145.out 0).trans rfl; have hcz79_1 : w78.cell? ⟨gb145, 1, none⟩ = some (.int .i64 a0_1) := (qai BK145.out 1).trans rfl; have hcz79_2 : w78.cell? ⟨gb145, 2, none⟩ = some (.slice A0_2 l0_2.length c0_2) := (qai BK145.out 2).trans rfl; have hfz79_0 := qah BK145.out 0; have hfz79_1 := qah BK145.out 1; have hfz79_2 := qah BK145.out 2) | ((with_reducible refine qaq (f := 110) rfl ?_); refine qbe (some 57) rfl rfl Try.func110 (by kernel_rfl) rfl #[.agg #[.int .i64 a0_0, .int .i64 a0_1, .slice A0_2 l0_2.length c0_2], .int .i64 (wrap64 ((wrap64 (4 * x10_2)) + t153))] rfl (by (try simp only [List.map_toArray, List.map_cons, List.map_nil]); first | done | rfl | (simp only [List.length_drop, List.length_take]; rfl)) ?_; (with_reducible refine (impl_HasChannel.calls k2 a0_0 a0_1 _ _ l0_2 (wrap64 ((wrap64 (4 * x10_2)) + t153)) false _ ?side1 ?side2 A48.out).mono ?_); (case side1 => repeat (first | exact (Kd.qbf HR0_2.out HB.out) | (with_reducible first | refine Kd.qaz ?_ _ | refine Kd.qay ?_ _ | refine Kd.qbd ?_))); (case side2 => exact HC0_2.out); rintro e w80 ⟨rfl, hb⟩; refine ⟨_, rfl, ?_⟩; have n0_ := qab.mk (Kd.qav (by (with_reducible repeat (first | apply Kd.qao | apply Kd.qan | apply Kd.qap)); exact HO_9.out) hb); have n1_ := qab.mk (qam (g := gb145) (o := .cells #[.int .i64 a0_0, .int .i64 a0_1, .slice A0_2 l0_2.length c0_2] 34 (0, 0)) (by (with_reducible repeat (first | refine qag ?_ _ | refine qaj ?_ | refine qaf ?_ _)); exact BK145.out) hb); have n2_ := qab.mk (qam (g := gb146) (o := .cells #[.slice A1_0 l1_0.length c1_0] 36 (0, 0)) (by (with_reducible repeat (first | refine qag ?_ _ | refine qaj ?_ | refine qaf ?_ _)); exact BK146.out) hb); have n3_ := qab.mk (qak (by repeat (first | (with_reducible first | exact HB.out | apply qad | apply qaa | apply qac | refine qae ?_ GE145.out | refine qae ?_ GE146.out) | exact HB.out)) hb); clear HO_9; clear BK145; clear BK146; clear HB; have HO_9 := n0_; have BK145 := n1_; have BK146 := n2_; have HB := n3_; clear n0_ n1_ n2_ n3_; (try clear hb); (try clear hb2); (try clear hk); (try clear hi)))
         go_ret
         exact ⟨_, by first | rfl | (simp [errW_none, errW_some] <;> rfl) | (simp [*, errW_none, errW_some] <;> rfl), by first | exact Kd.R_nil _ _ _ _ _ | exact Kd.N_nil _ _ _ _ _ | exact Kd.V_nil _ _ _ _ _ | exact Kd.Q_nil _ _ _ _ _ | exact Kd.S_nil _ _ _ _ _, by repeat (first | (with_reducible first | exact HB.out | apply qad | apply qaa | apply qac | refine qae ?_ GE145.out | refine qae ?_ GE146.out) | exact HB.out)⟩


-- NOT PRINTED: function 103 (impl_TableOk_1)


/-! ### impl_TableOk: function 44 (by hand) -/
def impl_TableOk.l0 : Nat → Int → Int → List Int → Option (Bool)
 | 0, _, _, _ => none
 | k + 1, n, i, p => if i < n then (if 0 ≤ (wrap64 ((wrap64 (i * n)) + i)) then (if (wrap64 ((wrap64 (i * n)) + i)) < (p.length : Int) then (if (rd p (wrap64 ((wrap64 (i * n)) + i))) = 4 then (impl_TableOk.l0 k n (wrap64 (i + 1)) p) else (some false)) else (none)) else (none)) else (some true)
def impl_TableOk.wk (k : Nat) (w h : Int) (l p : List Int) : List (Int × Int) → Option (Bool)
 | [] => some true
 | (a, b) :: r => (impl_WalkTable.f k w h l p a b).bind fun x => (if (x.length : Int) > 0 then (impl_TableOk.wk k w h l p r) else (some false))
def impl_TableOk.f (k : Nat) (a0_0 : Int) (a0_1 : Int) (l0_2 : List Int) (l1_0 : List Int) : Option (Bool) := (impl_NodeCount.f a0_0 a0_1).bind fun n => ((impl_MeshOk.f k a0_0 a0_1 l0_2).bind fun m => (if m = true then (if (l1_0.length : Int) = (wrap64 (n * n)) then ((impl_TableOk.l0 k n 0 l1_0).bind fun d => (if d = true then (impl_TableOk.wk k a0_0 a0_1 l0_2 l1_0 (pall n.toNat 0)) else (some false))) else (some false)) else (some false)))
theorem impl_TableOk.mono_l : ∀ k, (∀ y0 y1 y2, LeO (impl_TableOk.l0 k y0 y1 y2) (impl_TableOk.l0 (k + 1) y0 y1 y2))
 | 0 => fun _ _ _ r h => by simp [impl_TableOk.l0] at h
 | k + 1 => by
  have ih0 := impl_TableOk.mono_l k
  intro y0 y1 y2
  unfold impl_TableOk.l0
  repeat' first
   | (with_reducible exact ih0 _ _ _)
   | (with_reducible exact LeO.refl _)
   | (with_reducible exact LeO.none _)
   | (with_reducible refine LeO.ite ?_ ?_)
   | (with_reducible refine LeO.bind ?_ (fun _ => ?_))
theorem impl_TableOk.mono_w (w h : Int) (l p : List Int) (k : Nat) : ∀ r, LeO (impl_TableOk.wk k w h l p r) (impl_TableOk.wk (k + 1) w h l p r)
 | [] => LeO.refl _
 | (a, b) :: r => by
  have ih := impl_TableOk.mono_w w h l p k r
  unfold impl_TableOk.wk
  exact LeO.bind (impl_WalkTable.mono _ _ _ _ _ _ _) (fun x => LeO.ite ih (LeO.refl _))
theorem impl_TableOk.mono : ∀ a0 a1 a2 a3 k, LeO (impl_TableOk.f k a0 a1 a2 a3) (impl_TableOk.f (k + 1) a0 a1 a2 a3) := by
 intro a0 a1 a2 a3 k
 unfold impl_TableOk.f
 exact LeO.bind (LeO.refl _) fun _ => LeO.bind (impl_MeshOk.mono _ _ _ _) fun _ => LeO.ite (LeO.ite (LeO.bind (impl_TableOk.mono_l k _ _ _) fun _ => LeO.ite (impl_TableOk.mono_w _ _ _ _ _ _) (LeO.refl _)) (LeO.refl _)) (LeO.refl _)
theorem nodes_nat {w h n : Int} (hn : impl_NodeCount.f w h = some n) : ∃ m : Nat, n = (m : Int) ∧ m ≤ 16 := by
 unfold impl_NodeCount.f impl_GridOk.f impl_inside.f at hn
 by_cases h1 : 1 ≤ w
 ·by_cases h2 : w ≤ 4
  ·by_cases h3 : 1 ≤ h
   ·by_cases h4 : h ≤ 4
    ·have hw : w = 1 ∨ w = 2 ∨ w = 3 ∨ w = 4 := by omega
     have hh : h = 1 ∨ h = 2 ∨ h = 3 ∨ h = 4 := by omega
     rcases hw with rfl | rfl | rfl | rfl <;> rcases hh with rfl | rfl | rfl | rfl <;> simp [wrap64] at hn <;> exact ⟨n.toNat, by omega, by omega⟩
    ·simp [h1, h2, h3, h4] at hn; exact ⟨0, by omega, by omega⟩
   ·simp [h1, h2, h3] at hn; exact ⟨0, by omega, by omega⟩
  ·simp [h1, h2] at hn; exact ⟨0, by omega, by omega⟩
 ·simp [h1] at hn; exact ⟨0, by omega, by omega⟩
set_option maxHeartbeats 8000000 in
set_option maxRecDepth 100000 in
/-- the visitor of TableOk: does a walk lead there -/
theorem impl_TableOk.clo (k : Nat) (w h : Int) (A : Option Addr) (c : Nat) (l : List Int) (A1 : Option Addr) (c1 : Nat) (p : List Int) (a b : Int) (x : List Int) (bm bt : Nat) (W : World)
  (bk1 : W.heap[bm]? = some (.cells #[.int .i64 w, .int .i64 h, .slice A l.length c] 34 (0, 0))) (bk2 : W.heap[bt]? = some (.cells #[.slice A1 p.length c1] 36 (0, 0)))
  (hr : Kd.C (Kd.int .i64) W A l.length l) (hc : l.length ≤ c) (hr1 : Kd.C (Kd.int .i64) W A1 p.length p) (hc1 : p.length ≤ c1) (hx : impl_WalkTable.f k w h l p a b = some x) :
  Calls Try.prog 103 #[.int .i64 a, .int .i64 b, .pointer (some ⟨bm, 0, none⟩), .pointer (some ⟨bt, 0, none⟩)] W fun e W' => e = .returned (.bool (decide ((x.length : Int) > 0))) ∧ Below W.heap.size W W' := by
 have hu1 := Try.underlying34
 have hu2 := Try.underlying36
 have HX := qab.mk hx
 have HR := qab.mk hr
 have HR1 := qab.mk hr1
 have BK1 := qab.mk bk1
 have BK2 := qab.mk bk2
 clear hx hr hr1 bk1 bk2
 have e0 : W.cell? ⟨bm, 0, none⟩ = some (.int .i64 w) := (qai BK1.out 0).trans rfl
 have e1 : W.cell? ⟨bm, 1, none⟩ = some (.int .i64 h) := (qai BK1.out 1).trans rfl
 have e2 : W.cell? ⟨bm, 2, none⟩ = some (.slice A l.length c) := (qai BK1.out 2).trans rfl
 have e3 : W.cell? ⟨bt, 0, none⟩ = some (.slice A1 p.length c1) := (qai BK2.out 0).trans rfl
 have HB := qab.mk (Below.refl W.heap.size W)
 cases hd : decide ((x.length : Int) > 0) with
 | true =>
  have hd2 : decide (0 < (x.length : Int)) = true := by simpa using hd
  have hd3 : decide (0 < x.length) = true := by simpa using hd
  clear hd
  go_enter Try.func103, Try.ntmps103
  go_wp2_with (go_at_call 52; refine (impl_WalkTable.calls k w h A c l A1 c1 p a b x _ (Kd.qbf HR.out HB.out) hc (Kd.qbf HR1.out HB.out) hc1 HX.out).mono ?_; rintro e w' ⟨v, rfl, ho, hb⟩; obtain ⟨A2, c2, rfl, hl2, _⟩ := Kd.qcl ho; clear ho; have HB2 := qab.mk hb; clear hb)
  go_ret
  exact ⟨by first | rfl | (simp; done) | (simp [*]; done), HB2.out⟩
 | false =>
  have hd2 : decide (0 < (x.length : Int)) = false := by simpa using hd
  have hd3 : decide (0 < x.length) = false := by simpa using hd
  clear hd
  go_enter Try.func103, Try.ntmps103
  go_wp2_with (go_at_call 52; refine (impl_WalkTable.calls k w h A c l A1 c1 p a b x _ (Kd.qbf HR.out HB.out) hc (Kd.qbf HR1.out HB.out) hc1 HX.out).mono ?_; rintro e w' ⟨v, rfl, ho, hb⟩; obtain ⟨A2, c2, rfl, hl2, _⟩ := Kd.qcl ho; clear ho; have HB2 := qab.mk hb; clear hb)
  go_ret
  exact ⟨by first | rfl | (simp; done) | (simp [*]; done), HB2.out⟩
set_option maxHeartbeats 4000000 in
set_option maxRecDepth 100000 in
theorem impl_TableOk.calls (k : Nat) (a0_0 : Int) (a0_1 : Int) (A0_2 : Option Addr) (c0_2 : Nat) (l0_2 : List Int) (A1_0 : Option Addr) (c1_0 : Nat) (l1_0 : List Int) (r : Bool) (w : World) (hr0_2 : Kd.C (Kd.int .i64) w A0_2 l0_2.length l0_2) (hc0_2 : l0_2.length ≤ c0_2) (hr1_0 : Kd.C (Kd.int .i64) w A1_0 l1_0.length l1_0) (hc1_0 : l1_0.length ≤ c1_0) (h : impl_TableOk.f k a0_0 a0_1 l0_2 l1_0 = some r) :
  Calls Try.prog 44 #[.agg #[.int .i64 a0_0, .int .i64 a0_1, .slice A0_2 l0_2.length c0_2], .agg #[.slice A1_0 l1_0.length c1_0]] w fun e w' => e = .returned (.bool r) ∧ Below w.heap.size w w' := by
 have hu1 := Try.underlying34
 have hu2 := Try.underlying36
 have hu3 := Try.underlying32
 have HR := qab.mk hr0_2
 have HR1 := qab.mk hr1_0
 have HB := qab.mk (Below.refl w.heap.size w)
 unfold impl_TableOk.f at h
 obtain ⟨n, hn, h⟩ := Option.bind_eq_some_iff.1 h
 obtain ⟨m, hm, h⟩ := Option.bind_eq_some_iff.1 h
 obtain ⟨N, rfl, hN⟩ := nodes_nat hn
 simp only [Int.toNat_natCast] at h
 have HN := qab.mk hn
 have HM := qab.mk hm
 have H := qab.mk h
 have hpl : l1_0.length ≤ 9223372036854775807 := hr1_0.2.1
 clear hr0_2 hr1_0 hn hm h
 obtain ⟨M, hM⟩ : ∃ M : Nat, M = N * N := ⟨_, rfl⟩
 have hM2 : M ≤ 256 := by rw [hM]; exact Nat.mul_le_mul hN hN
 have hw0 : wrap64 ((N : Int) * (N : Int)) = (M : Int) := by
  rw [show (N : Int) * (N : Int) = (M : Int) by rw [hM]; simp]
  unfold wrap64; omega
 have hw1 : IntKind.i64.wrap ((N : Int) * (N : Int)) = (M : Int) := (i64_w _).trans hw0
 have HMM := qab.mk hM
 have H' : qab ((if m = true then (if (l1_0.length : Int) = (M : Int) then ((impl_TableOk.l0 k (N : Int) 0 l1_0).bind fun d => (if d = true then (impl_TableOk.wk k a0_0 a0_1 l0_2 l1_0 (pall N 0)) else (some false))) else (some false)) else (some false)) = some r) := ⟨by rw [← hw0]; exact H.out⟩
 clear H hM
 have HW0 := qab.mk hw0
 clear hw0
 go_enter Try.func44, Try.ntmps44
 go_wp2_with (first | ((with_reducible refine qas (N := 2) rfl ?_); refine qar ?hg (N := 2) ?hd (cs := #[.int .i64 a0_0, .int .i64 a0_1, .slice A0_2 l0_2.length c0_2]) (t := 34) ?hr ?_; (case hd => rfl); (case hg => rfl); (case hr => first | (go_simp; done) | (go_simp; rfl)); intro gm hg w1 hbox hb; have n1 := qab.mk (qak (by repeat (first | (with_reducible first | exact HB.out | apply qad | apply qaa | apply qac) | exact HB.out)) hb); have n2 := qab.mk hbox; clear HB hb hbox hg; have HB := n1; have BKm := n2; clear n1 n2) | ((with_reducible refine qas (N := 3) rfl ?_); refine qar ?hg (N := 3) ?hd (cs := #[.slice A1_0 l1_0.length c1_0]) (t := 36) ?hr ?_; (case hd => rfl); (case hg => rfl); (case hr => first | (go_simp; done) | (go_simp; rfl)); intro gt hg w2 hbox hb; have n1 := qab.mk (qak (by repeat (first | (with_reducible first | exact HB.out | apply qad | apply qaa | apply qac) | exact HB.out)) hb); have n2 := qab.mk hbox; have n3 := qab.mk (qam (by (with_reducible repeat (first | refine qag ?_ _ | refine qaj ?_ | refine qaf ?_ _)); exact BKm.out) hb); clear HB BKm hb hbox hg; have HB := n1; have BKt := n2; have BKm := n3; clear n1 n2 n3; have e0 : w2.cell? ⟨gm, 0, none⟩ = some (.int .i64 a0_0) := (qai BKm.out 0).trans rfl; have e1 : w2.cell? ⟨gm, 1, none⟩ = some (.int .i64 a0_1) := (qai BKm.out 1).trans rfl; have e2 : w2.cell? ⟨gm, 2, none⟩ = some (.slice A0_2 l0_2.length c0_2) := (qai BKm.out 2).trans rfl; have e3 : w2.cell? ⟨gt, 0, none⟩ = some (.slice A1_0 l1_0.length c1_0) := (qai BKt.out 0).trans rfl))
 refine (impl_NodeCount.calls a0_0 a0_1 (N : Int) _ HN.out).mono ?_
 rintro e w3 ⟨rfl, hb⟩
 clear e0 e1 e2 e3
 have n1 := qab.mk (qak (by repeat (first | (with_reducible first | exact HB.out | apply qad | apply qaa | apply qac) | exact HB.out)) hb)
 have n2 := qab.mk (qam (by (with_reducible repeat (first | refine qag ?_ _ | refine qaj ?_ | refine qaf ?_ _)); exact BKm.out) hb)
 have n3 := qab.mk (qam (by (with_reducible repeat (first | refine qag ?_ _ | refine qaj ?_ | refine qaf ?_ _)); exact BKt.out) hb)
 clear HB BKm BKt hb
 have HB := n1
 have BKm := n2
 have BKt := n3
 clear n1 n2 n3
 have e0 : w3.cell? ⟨gm, 0, none⟩ = some (.int .i64 a0_0) := (qai BKm.out 0).trans rfl
 have e1 : w3.cell? ⟨gm, 1, none⟩ = some (.int .i64 a0_1) := (qai BKm.out 1).trans rfl
 have e2 : w3.cell? ⟨gm, 2, none⟩ = some (.slice A0_2 l0_2.length c0_2) := (qai BKm.out 2).trans rfl
 have e3 : w3.cell? ⟨gt, 0, none⟩ = some (.slice A1_0 l1_0.length c1_0) := (qai BKt.out 0).trans rfl
 go_wp2_with (fail)
 refine (impl_MeshOk.calls k a0_0 a0_1 A0_2 c0_2 l0_2 m _ (Kd.qbf HR.out (by repeat (first | (with_reducible first | exact HB.out | apply qad | apply qaa | apply qac) | exact HB.out))) hc0_2 HM.out).mono ?_
 rintro e w4 ⟨rfl, hb⟩
 clear e0 e1 e2 e3
 have n1 := qab.mk (qak (by repeat (first | (with_reducible first | exact HB.out | apply qad | apply qaa | apply qac) | exact HB.out)) hb)
 have n2 := qab.mk (qam (by (with_reducible repeat (first | refine qag ?_ _ | refine qaj ?_ | refine qaf ?_ _)); exact BKm.out) hb)
 have n3 := qab.mk (qam (by (with_reducible repeat (first | refine qag ?_ _ | refine qaj ?_ | refine qaf ?_ _)); exact BKt.out) hb)
 clear HB BKm BKt hb
 have HB := n1
 have BKm := n2
 have BKt := n3
 clear n1 n2 n3
 have e0 : w4.cell? ⟨gm, 0, none⟩ = some (.int .i64 a0_0) := (qai BKm.out 0).trans rfl
 have e1 : w4.cell? ⟨gm, 1, none⟩ = some (.int .i64 a0_1) := (qai BKm.out 1).trans rfl
 have e2 : w4.cell? ⟨gm, 2, none⟩ = some (.slice A0_2 l0_2.length c0_2) := (qai BKm.out 2).trans rfl
 have e3 : w4.cell? ⟨gt, 0, none⟩ = some (.slice A1_0 l1_0.length c1_0) := (qai BKt.out 0).trans rfl
 cases m with
 | false =>
  have h := H'.out
  clear H'
  rw [if_neg (by decide)] at h
  obtain rfl := Option.some.inj h
  go_wp2
  go_ret
  exact ⟨rfl, HB.out⟩
 | true =>
  have H2 := qab.mk ((if_pos rfl).symm.trans H'.out)
  clear H'
  by_cases q : l1_0.length = M
  ·have H3 := qab.mk ((if_pos (show (l1_0.length : Int) = (M : Int) by omega)).symm.trans H2.out)
   clear H2
   obtain ⟨d, hd, h⟩ := Option.bind_eq_some_iff.1 H3.out
   clear H3
   have HD := qab.mk hd
   have H4 := qab.mk h
   clear hd h
   have q1 : ((l1_0.length : Int) != (M : Int)) = false := bne_eq_false_iff_eq.2 (by omega)
   have q2 : ((l1_0.length : Int) == (M : Int)) = true := beq_iff_eq.2 (by omega)
   have q3 : (l1_0.length != M) = false := bne_eq_false_iff_eq.2 q
   have q4 : (l1_0.length == M) = true := beq_iff_eq.2 q
   have HQ := qab.mk q
   clear q
   go_wp2
   go_loopg [23] (N + 1) (fun kq v23 wr => ∃ (i kk : Nat), i ≤ N ∧ N - i < kq ∧ v23 = .int .i64 (i : Int) ∧ qab (impl_TableOk.l0 kk (N : Int) (i : Int) l1_0 = some d) ∧ qab (wr.heap[gm]? = some (.cells #[.int .i64 a0_0, .int .i64 a0_1, .slice A0_2 l0_2.length c0_2] 34 (0, 0))) ∧ qab (wr.heap[gt]? = some (.cells #[.slice A1_0 l1_0.length c1_0] 36 (0, 0))) ∧ qab (Below w.heap.size w wr))
   case atStart => exact ⟨0, k, Nat.zero_le _, by omega, rfl, HD, BKm, BKt, HB⟩
   case round =>
    clear HD BKm BKt HB e0 e1 e2 e3
    obtain ⟨i, kk, hi, hgk, rfl, HD, BKm, BKt, HB⟩ := hrel
    cases kk with
    | zero => exact absurd HD.out (by simp [impl_TableOk.l0])
    | succ kk =>
     have h := HD.out
     clear HD
     simp only [impl_TableOk.l0] at h
     by_cases hlt : i < N
     ·have hltz : (i : Int) < (N : Int) := by omega
      rw [if_pos hltz] at h
      obtain ⟨X, hX⟩ : ∃ X : Nat, X = i * N := ⟨_, rfl⟩
      have hX2 : X ≤ 256 := by rw [hX]; exact (Nat.mul_le_mul (show i ≤ 16 by omega) hN : i * N ≤ 16 * 16)
      have hX3 : X + i < M := by
       rw [HMM.out, hX]
       calc i * N + i < i * N + N := by omega
        _ = (i + 1) * N := by rw [Nat.succ_mul]
        _ ≤ N * N := Nat.mul_le_mul_right _ hlt
      obtain ⟨Y, hY⟩ : ∃ Y : Nat, Y = X + i := ⟨_, rfl⟩
      have hY2 : Y ≤ 512 := by omega
      have hY3 : Y < l1_0.length := by rw [HQ.out]; omega
      have p1 : (0 : Int) ≤ (Y : Int) := by omega
      have p2 : (Y : Int) < (l1_0.length : Int) := by omega
      have hy2 : (X : Int) + (i : Int) = (Y : Int) := by omega
      have HY0 : qab (wrap64 ((X : Int) + (i : Int)) = (Y : Int)) := ⟨by unfold wrap64; omega⟩
      have HX0 : qab (wrap64 ((i : Int) * (N : Int)) = (X : Int)) := ⟨by
       rw [show (i : Int) * (N : Int) = (X : Int) by rw [hX]; simp]
       unfold wrap64; omega⟩
      rw [HX0.out, HY0.out, if_pos p1, if_pos p2] at h
      have H5 := qab.mk h
      have HX1 := qab.mk ((i64_w _).trans HX0.out)
      have HY1 := qab.mk ((i64_w _).trans HY0.out)
      clear h hX hY HX0 HY0
      obtain ⟨ad, ead, hx⟩ := Kd.qcc (Kd.qbf HR1.out HB.out) (Y : Int) p1 p2
      subst ead
      have ht : ((Y : Int)).toNat = Y := by simp
      rw [ht] at hx
      clear ht
      generalize hz : rd l1_0 (Y : Int) = z at hx
      have HZ := qab.mk hz
      clear hz
      have e3 : wr.cell? ⟨gt, 0, none⟩ = some (.slice (some ad) l1_0.length c1_0) := (qai BKt.out 0).trans rfl
      by_cases q5 : z = 4
      ·have q6 : (z != 4) = false := bne_eq_false_iff_eq.2 q5
       have q7 : (z == 4) = true := beq_iff_eq.2 q5
       have H6 : qab (impl_TableOk.l0 kk (N : Int) ((i + 1 : Nat) : Int) l1_0 = some d) := ⟨by
        have h := H5.out
        rw [HZ.out, if_pos q5] at h
        rw [show ((i + 1 : Nat) : Int) = wrap64 ((i : Int) + 1) by unfold wrap64; omega]
        exact h⟩
       clear H5 HZ q5
       have hx1 := HX1.out
       have hy1 := HY1.out
       go_wp2
       clear hx1 hy1
       go_roundg (N - i)
       case measure => omega
       case rel => exact ⟨i + 1, kk, by omega, by omega, by go_num, H6, BKm, BKt, HB⟩
      ·have q6 : (z != 4) = true := bne_iff_ne.2 q5
       have q7 : (z == 4) = false := beq_eq_false_iff_ne.2 q5
       have h := H5.out
       rw [HZ.out, if_neg q5] at h
       obtain rfl := Option.some.inj h
       have h2 := H4.out
       rw [if_neg (by decide)] at h2
       obtain rfl := Option.some.inj h2
       clear H5 H4 HZ q5
       have hx1 := HX1.out
       have hy1 := HY1.out
       go_wp2
       go_ret
       exact ⟨rfl, HB.out⟩
     ·have hltz : ¬ (i : Int) < (N : Int) := by omega
      rw [if_neg hltz] at h
      obtain rfl := Option.some.inj h
      have H6 := qab.mk ((if_pos rfl).symm.trans H4.out)
      clear H4
      have e0 : wr.cell? ⟨gm, 0, none⟩ = some (.int .i64 a0_0) := (qai BKm.out 0).trans rfl
      have e1 : wr.cell? ⟨gm, 1, none⟩ = some (.int .i64 a0_1) := (qai BKm.out 1).trans rfl
      have e2 : wr.cell? ⟨gm, 2, none⟩ = some (.slice A0_2 l0_2.length c0_2) := (qai BKm.out 2).trans rfl
      go_wp2_with (fail)
      refine (impl_pairs.abs a0_0 a0_1 N HN.out hN 103 #[.pointer (some ⟨gm, 0, none⟩), .pointer (some ⟨gt, 0, none⟩)] r (fun l W => impl_TableOk.wk k a0_0 a0_1 l0_2 l1_0 l = some r ∧ Below w.heap.size w W ∧ W.heap[gm]? = some (.cells #[.int .i64 a0_0, .int .i64 a0_1, .slice A0_2 l0_2.length c0_2] 34 (0, 0)) ∧ W.heap[gt]? = some (.cells #[.slice A1_0 l1_0.length c1_0] 36 (0, 0))) (fun W => Below w.heap.size w W) (fun args W => by kernel_rfl) ?hJ ?hstep ?hend _ ⟨H6.out, HB.out, BKm.out, BKt.out⟩).mono ?_
      case hJ =>
       rintro l W W' ⟨h1, h2, h3, h4⟩ hb
       exact ⟨h1, qak h2 hb, qam h3 hb, qam h4 hb⟩
      case hstep =>
       rintro a b l W ⟨h1, h2, h3, h4⟩
       unfold impl_TableOk.wk at h1
       obtain ⟨x, hx, h1⟩ := Option.bind_eq_some_iff.1 h1
       refine ⟨decide ((x.length : Int) > 0), (impl_TableOk.clo k a0_0 a0_1 A0_2 c0_2 l0_2 A1_0 c1_0 l1_0 a b x gm gt W h3 h4 (Kd.qbf HR.out h2) hc0_2 (Kd.qbf HR1.out h2) hc1_0 hx).mono ?_⟩
       rintro e W' ⟨rfl, hb⟩
       refine ⟨rfl, fun hd => ⟨?_, qak h2 hb, qam h3 hb, qam h4 hb⟩, fun hd => ⟨?_, qak h2 hb⟩⟩
       ·rw [if_pos (of_decide_eq_true hd)] at h1; exact h1
       ·rw [if_neg (of_decide_eq_false hd)] at h1; exact (Option.some.inj h1).symm
      case hend =>
       rintro W ⟨h1, h2, _, _⟩
       exact ⟨(Option.some.inj h1).symm, h2⟩
      rintro e w' ⟨rfl, hb⟩
      go_wp2
      go_ret
      exact ⟨rfl, hb⟩
  ·have q1 : ((l1_0.length : Int) != (M : Int)) = true := bne_iff_ne.2 (by omega)
   have q2 : ((l1_0.length : Int) == (M : Int)) = false := beq_eq_false_iff_ne.2 (by omega)
   have q3 : (l1_0.length != M) = true := bne_iff_ne.2 q
   have q4 : (l1_0.length == M) = false := beq_eq_false_iff_ne.2 q
   have h := H2.out
   clear H2
   rw [if_neg (by omega)] at h
   obtain rfl := Option.some.inj h
   clear q
   go_wp2
   go_ret
   exact ⟨rfl, HB.out⟩



-- NOT PRINTED: function 131 (impl_adjacent_1)


/-! ### impl_adjacent: function 82 (by hand) -/
/-- what a visitor of adjacent may do. J: what holds while these pairs are still to be visited; O: the blocks that it may write -/
structure Vis (g : Nat) (lb : Array Value) (w00 : World) (J : List (Int × Int) → World → Prop) (O : World → Nat → Prop) : Prop where
 eg : ∀ args W, (callFunc g args).run Try.prog W = .ok (.enter g args) W
 elder : ∀ l W, J l W → Below w00.heap.size w00 W
 lt : ∀ l W k, J l W → O W k → k < W.heap.size
 move : ∀ l W W', J l W → Below W.heap.size W W' → J l W' ∧ ∀ k, O W' k → O W k
 step : ∀ a b l W, J ((a, b) :: l) W → Calls Try.prog g (#[.int .i64 a, .int .i64 b] ++ lb) W fun e W' => e = .returned (.tuple #[]) ∧ J l W' ∧ W.heap.size ≤ W'.heap.size ∧ (∀ k, k < W.heap.size → ¬ O W k → W'.heap[k]? = W.heap[k]?) ∧ (∀ k, O W' k → O W k ∨ W.heap.size ≤ k)
/-- two adjacent elements, from the place i on -/
def adf (x : List Int) (i : Nat) : List (Int × Int) := (List.range' i (x.length - i)).map fun (j : Nat) => (rd x ((j - 1 : Nat) : Int), rd x (j : Int))
theorem adf_lt {x : List Int} {i : Nat} (h : i < x.length) : adf x i = (rd x ((i - 1 : Nat) : Int), rd x (i : Int)) :: adf x (i + 1) := by
 unfold adf
 rw [show x.length - i = (x.length - (i + 1)) + 1 by omega, List.range'_succ, List.map_cons]
theorem adf_end {x : List Int} {i : Nat} (h : x.length ≤ i) : adf x i = [] := by
 unfold adf
 rw [show x.length - i = 0 by omega]
 rfl
def impl_adjacent.wk (k : Nat) (w h : Int) (l p : List Int) : List (Int × Int) → Option (List (Int × Int))
 | [] => some []
 | (a, b) :: r => (impl_WalkTable.f k w h l p a b).bind fun x => (impl_adjacent.wk k w h l p r).bind fun t => some (adf x 1 ++ t)
theorem impl_adjacent.mono_w (w h : Int) (l p : List Int) (k : Nat) : ∀ r, LeO (impl_adjacent.wk k w h l p r) (impl_adjacent.wk (k + 1) w h l p r)
 | [] => LeO.refl _
 | (a, b) :: r => by
  have ih := impl_adjacent.mono_w w h l p k r
  unfold impl_adjacent.wk
  exact LeO.bind (impl_WalkTable.mono _ _ _ _ _ _ _) (fun x => LeO.bind ih (fun _ => LeO.refl _))
/-- the boxes of adjacent, and that the visitor writes none of them -/
def AdB (w h : Int) (A : Option Addr) (n c : Nat) (A1 : Option Addr) (n1 c1 : Nat) (g : Nat) (lb : Array Value) (bm bt bv : Nat) (O : World → Nat → Prop) (W : World) : Prop :=
 W.heap[bm]? = some (.cells #[.int .i64 w, .int .i64 h, .slice A n c] 34 (0, 0)) ∧ W.heap[bt]? = some (.cells #[.slice A1 n1 c1] 36 (0, 0)) ∧ W.heap[bv]? = some (.cells #[.func (.func g) #[] lb] 98 (0, 0)) ∧ ¬ O W bm ∧ ¬ O W bt ∧ ¬ O W bv
theorem AdB.below {w h : Int} {A : Option Addr} {n c : Nat} {A1 : Option Addr} {n1 c1 g : Nat} {lb : Array Value} {bm bt bv : Nat} {O : World → Nat → Prop} {W W' : World} (t : AdB w h A n c A1 n1 c1 g lb bm bt bv O W) (hb : Below W.heap.size W W') (hO : ∀ k, O W' k → O W k) : AdB w h A n c A1 n1 c1 g lb bm bt bv O W' := by
 obtain ⟨t1, t2, t3, t4, t5, t6⟩ := t
 exact ⟨qam t1 hb, qam t2 hb, qam t3 hb, fun x => t4 (hO _ x), fun x => t5 (hO _ x), fun x => t6 (hO _ x)⟩
theorem AdB.step {w h : Int} {A : Option Addr} {n c : Nat} {A1 : Option Addr} {n1 c1 g : Nat} {lb : Array Value} {bm bt bv : Nat} {O : World → Nat → Prop} {W W' : World} (t : AdB w h A n c A1 n1 c1 g lb bm bt bv O W) (hf : ∀ k, k < W.heap.size → ¬ O W k → W'.heap[k]? = W.heap[k]?) (hO : ∀ k, O W' k → O W k ∨ W.heap.size ≤ k) : AdB w h A n c A1 n1 c1 g lb bm bt bv O W' := by
 obtain ⟨t1, t2, t3, t4, t5, t6⟩ := t
 have m : ∀ k o, W.heap[k]? = some o → ¬ O W k → W'.heap[k]? = some o ∧ ¬ O W' k := fun k o hk no => by
  have hlt := (Array.getElem?_eq_some_iff.1 hk).1
  refine ⟨(hf k hlt no).trans hk, fun x => ?_⟩
  rcases hO k x with y | y
  ·exact no y
  ·omega
 exact ⟨(m _ _ t1 t4).1, (m _ _ t2 t5).1, (m _ _ t3 t6).1, (m _ _ t1 t4).2, (m _ _ t2 t5).2, (m _ _ t3 t6).2⟩
set_option maxHeartbeats 8000000 in
set_option maxRecDepth 100000 in
/-- the visitor that adjacent hands to pairs: it visits the adjacent channels of one walk -/
theorem impl_adjacent.clo (k : Nat) (w h : Int) (A : Option Addr) (c : Nat) (l : List Int) (A1 : Option Addr) (c1 : Nat) (p : List Int) (a b : Int) (x : List Int) (bm bt bv g : Nat) (lb : Array Value) (w00 W : World) (J : List (Int × Int) → World → Prop) (O : World → Nat → Prop) (V : Vis g lb w00 J O) (rest : List (Int × Int))
  (hJ : J (adf x 1 ++ rest) W) (hB : AdB w h A l.length c A1 p.length c1 g lb bm bt bv O W)
  (hr : Kd.C (Kd.int .i64) w00 A l.length l) (hc : l.length ≤ c) (hr1 : Kd.C (Kd.int .i64) w00 A1 p.length p) (hc1 : p.length ≤ c1) (hx : impl_WalkTable.f k w h l p a b = some x) :
  Calls Try.prog 131 #[.int .i64 a, .int .i64 b, .pointer (some ⟨bm, 0, none⟩), .pointer (some ⟨bt, 0, none⟩), .pointer (some ⟨bv, 0, none⟩)] W fun e W' => e = .returned (.bool true) ∧ J rest W' ∧ AdB w h A l.length c A1 p.length c1 g lb bm bt bv O W' := by
 have hu1 := Try.underlying34
 have hu2 := Try.underlying36
 have HV := qab.mk V
 have HX := qab.mk hx
 have HR := qab.mk hr
 have HR1 := qab.mk hr1
 have HJ := qab.mk hJ
 have HB := qab.mk hB
 clear V hx hr hr1 hJ
 have e0 : W.cell? ⟨bm, 0, none⟩ = some (.int .i64 w) := (qai hB.1 0).trans rfl
 have e1 : W.cell? ⟨bm, 1, none⟩ = some (.int .i64 h) := (qai hB.1 1).trans rfl
 have e2 : W.cell? ⟨bm, 2, none⟩ = some (.slice A l.length c) := (qai hB.1 2).trans rfl
 have e3 : W.cell? ⟨bt, 0, none⟩ = some (.slice A1 p.length c1) := (qai hB.2.1 0).trans rfl
 clear hB
 go_enter Try.func131, Try.ntmps131
 go_wp2_with (go_at_call 52; refine (impl_WalkTable.calls k w h A c l A1 c1 p a b x _ (Kd.qbf HR.out (HV.out.elder _ _ HJ.out)) hc (Kd.qbf HR1.out (HV.out.elder _ _ HJ.out)) hc1 HX.out).mono ?_; rintro e w1 ⟨v, rfl, ho, hb⟩; obtain ⟨A2, c2, rfl, hl2, _⟩ := Kd.qcl ho; have n1 := qab.mk (HV.out.move _ _ _ HJ.out hb); have n2 := qab.mk (AdB.below HB.out hb n1.out.2); have HO : qab (Kd.R (Kd.int .i64) 3 w1 W.heap.size (fun k => ¬ O w1 k) (.slice A2 x.length c2) x) := ⟨Kd.qbb (Kd.qde ho) (fun k hk ho' => by have z := HV.out.lt _ _ k HJ.out (n1.out.2 k ho'); have := hk.2.1; omega)⟩; clear HJ HB ho hb e0 e1 e2 e3; have HJ := qab.mk n1.out.1; have HB := n2; clear n1 n2)
 have hxl : x.length ≤ 9223372036854775807 := (Kd.qau HO.out).2.2.2.1
 go_loopg [9] (x.length + 1) (fun kq v9 wr => ∃ i : Nat, 1 ≤ i ∧ (i ≤ x.length ∨ i = 1) ∧ x.length - i < kq ∧ v9 = .int .i64 (i : Int) ∧ qab (J (adf x i ++ rest) wr) ∧ qab (AdB w h A l.length c A1 p.length c1 g lb bm bt bv O wr) ∧ qab (Kd.R (Kd.int .i64) 3 wr W.heap.size (fun k => ¬ O wr k) (.slice A2 x.length c2) x))
 case atStart => exact ⟨1, by omega, by omega, by omega, rfl, HJ, HB, HO⟩
 case round =>
  clear HJ HB HO
  obtain ⟨i, hi1, hi, hgk, rfl, HJ, HB, HO⟩ := hrel
  by_cases hlt : i < x.length
  ·have hltz : (i : Int) < (x.length : Int) := by omega
   have p1 : (0 : Int) ≤ (i : Int) := by omega
   have p2 : (0 : Int) ≤ ((i - 1 : Nat) : Int) := by omega
   have p3 : ((i - 1 : Nat) : Int) < (x.length : Int) := by omega
   have HW : qab (IntKind.i64.wrap ((i : Int) - 1) = ((i - 1 : Nat) : Int)) := ⟨(i64_w _).trans (by unfold wrap64; omega)⟩
   obtain ⟨ad, ead, hx0⟩ := Kd.qcc (Kd.qau HO.out).2.2 ((i - 1 : Nat) : Int) p2 p3
   obtain ⟨ad', ead', hx1⟩ := Kd.qcc (Kd.qau HO.out).2.2 (i : Int) p1 hltz
   subst ead
   obtain rfl : ad = ad' := by injection ead'
   clear ead'
   have HJ2 : qab (J ((rd x ((i - 1 : Nat) : Int), rd x (i : Int)) :: (adf x (i + 1) ++ rest)) wr) := ⟨by have := HJ.out; rw [adf_lt hlt] at this; exact this⟩
   clear HJ
   rw [show ((i - 1 : Nat) : Int).toNat = i - 1 by simp] at hx0
   rw [show (i : Int).toNat = i by simp] at hx1
   generalize hz0 : rd x ((i - 1 : Nat) : Int) = z0 at hx0 HJ2
   generalize hz1 : rd x (i : Int) = z1 at hx1 HJ2
   clear hz0 hz1
   have ev : wr.cell? ⟨bv, 0, none⟩ = some (.func (.func g) #[] lb) := (qai HB.out.2.2.1 0).trans rfl
   have hw1 := HW.out
   go_wp2_with (fail)
   go_still_tail 10, (by kernel_rfl)
   clear hw1 HW
   change wpList _ _ _ _ _ wr.drew
   have hbd : Below wr.heap.size wr wr.drew := (Below.refl _ _).drew
   have n1 := qab.mk (HV.out.move _ _ _ HJ2.out hbd)
   have n2 := qab.mk (AdB.below HB.out hbd n1.out.2)
   have n3 : qab (Kd.R (Kd.int .i64) 3 wr.drew W.heap.size (fun k => ¬ O wr.drew k) (.slice (some ad) x.length c2) x) := ⟨Kd.qbb (Kd.qav HO.out hbd) (fun k hk ho' => hk (n1.out.2 k ho'))⟩
   clear HJ2 HB HO hbd hx0 hx1 ev
   have HS := qab.mk (HV.out.step z0 z1 _ _ n1.out.1)
   clear n1
   generalize wr.drew = w2 at n2 n3 HS
   have heg := HV.out.eg
   go_wp2_with (fail)
   clear heg
   refine (HS.out).mono ?_
   rintro e w3 ⟨rfl, hj, hsz, hf, ho⟩
   have HJ := qab.mk hj
   have HB := qab.mk (AdB.step n2.out hf ho)
   have HO : qab (Kd.R (Kd.int .i64) 3 w3 W.heap.size (fun k => ¬ O w3 k) (.slice (some ad) x.length c2) x) := ⟨Kd.qbb (Kd.qdv (Kd.qde n3.out) (fun k hk => hf k hk.2.2.1 hk.1)) (fun k hk ho' => by rcases ho k ho' with y | y; exact hk.1 y; have := hk.2.2.1; omega)⟩
   clear hj hsz hf ho n2 n3 HS
   go_wp2_with (fail)
   go_roundg (x.length - i)
   case measure => omega
   case rel => exact ⟨i + 1, by omega, by omega, by omega, by go_num, HJ, HB, HO⟩
  ·have hltz : ¬ (i : Int) < (x.length : Int) := by omega
   have HJ3 : qab (J rest wr) := ⟨by have := HJ.out; rw [adf_end (by omega), List.nil_append] at this; exact this⟩
   clear HJ
   go_wp2
   go_ret
   exact ⟨rfl, HJ3.out, HB.out⟩
set_option maxHeartbeats 4000000 in
set_option maxRecDepth 100000 in
theorem impl_adjacent.abs (k : Nat) (w h : Int) (A : Option Addr) (c : Nat) (l : List Int) (A1 : Option Addr) (c1 : Nat) (p : List Int) (N : Nat) (hn : impl_NodeCount.f w h = some (N : Int)) (hN : N ≤ 16) (vs : List (Int × Int)) (hvs : impl_adjacent.wk k w h l p (pall N 0) = some vs) (g : Nat) (lb : Array Value) (w00 W : World) (J : List (Int × Int) → World → Prop) (O : World → Nat → Prop) (V : Vis g lb w00 J O) (hJ : J vs W)
  (hr : Kd.C (Kd.int .i64) w00 A l.length l) (hc : l.length ≤ c) (hr1 : Kd.C (Kd.int .i64) w00 A1 p.length p) (hc1 : p.length ≤ c1) :
  Calls Try.prog 82 #[.agg #[.int .i64 w, .int .i64 h, .slice A l.length c], .agg #[.slice A1 p.length c1], .func (.func g) #[] lb] W fun e W' => e = .returned (.tuple #[]) ∧ J [] W' := by
 have hu1 := Try.underlying34
 have hu2 := Try.underlying36
 have hu3 := Try.underlying32
 have HV := qab.mk V
 have HN := qab.mk hn
 have HVS := qab.mk hvs
 have HR := qab.mk hr
 have HR1 := qab.mk hr1
 have HJ := qab.mk hJ
 have HB := qab.mk (Below.refl W.heap.size W)
 clear V hn hvs hr hr1 hJ
 go_enter Try.func82, Try.ntmps82
 go_wp2_with (first
  | ((with_reducible refine qas (N := 3) rfl ?_); refine qar ?hg (N := 3) ?hd (cs := #[.int .i64 w, .int .i64 h, .slice A l.length c]) (t := 34) ?hr ?_; (case hd => rfl); (case hg => rfl); (case hr => first | (go_simp; done) | (go_simp; rfl)); intro gm hgm w1 hbox hb; have n1 := qab.mk (qak HB.out hb); have BKm := qab.mk hbox; have GM := qab.mk hgm; clear HB hb hbox hgm; have HB := n1; clear n1)
  | ((with_reducible refine qas (N := 4) rfl ?_); refine qar ?hg (N := 4) ?hd (cs := #[.slice A1 p.length c1]) (t := 36) ?hr ?_; (case hd => rfl); (case hg => rfl); (case hr => first | (go_simp; done) | (go_simp; rfl)); intro gt hgt w2 hbox hb; have n1 := qab.mk (qak HB.out hb); have n2 := qab.mk (qam BKm.out hb); have BKt := qab.mk hbox; have GT : qab (W.heap.size ≤ gt) := ⟨by rw [hgt]; exact HB.out.size⟩; clear HB BKm hb hbox hgt; have HB := n1; have BKm := n2; clear n1 n2)
  | ((with_reducible refine qas (N := 5) rfl ?_); refine qar ?hg (N := 5) ?hd (cs := #[.func (.func g) #[] lb]) (t := 98) ?hr ?_; (case hd => rfl); (case hg => rfl); (case hr => first | (go_simp; done) | (go_simp; rfl)); intro gv hgv w3 hbox hb; have n1 := qab.mk (qak HB.out hb); have n2 := qab.mk (qam BKm.out hb); have n3 := qab.mk (qam BKt.out hb); have BKv := qab.mk hbox; have GV : qab (W.heap.size ≤ gv) := ⟨by rw [hgv]; exact HB.out.size⟩; clear HB BKm BKt hb hbox hgv; have HB := n1; have BKm := n2; have BKt := n3; clear n1 n2 n3; have e0 : w3.cell? ⟨gm, 0, none⟩ = some (.int .i64 w) := (qai BKm.out 0).trans rfl; have e1 : w3.cell? ⟨gm, 1, none⟩ = some (.int .i64 h) := (qai BKm.out 1).trans rfl))
 have M1 := HV.out.move _ _ _ HJ.out HB.out
 have nO : ∀ b, W.heap.size ≤ b → ¬ O w3 b := fun b hb ho => by
  have z := HV.out.lt _ _ b HJ.out (M1.2 b ho)
  omega
 have HA : qab (AdB w h A l.length c A1 p.length c1 g lb gm gt gv O w3) := ⟨BKm.out, BKt.out, BKv.out, nO _ (by rw [GM.out]; exact Nat.le_refl _), nO _ GT.out, nO _ GV.out⟩
 have HJ3 := qab.mk M1.1
 clear M1 nO e0 e1
 refine (impl_pairs.abs w h N HN.out hN 131 #[.pointer (some ⟨gm, 0, none⟩), .pointer (some ⟨gt, 0, none⟩), .pointer (some ⟨gv, 0, none⟩)] true (fun r W' => ∃ t, impl_adjacent.wk k w h l p r = some t ∧ J t W' ∧ AdB w h A l.length c A1 p.length c1 g lb gm gt gv O W') (fun W' => J [] W') (fun args W => by kernel_rfl) ?hJ ?hstep ?hend _ ⟨vs, HVS.out, HJ3.out, HA.out⟩).mono ?_
 case hJ =>
  rintro r W1 W2 ⟨t, h1, h2, h3⟩ hb
  have z := HV.out.move _ _ _ h2 hb
  exact ⟨t, h1, z.1, AdB.below h3 hb z.2⟩
 case hstep =>
  rintro a b r W1 ⟨t, h1, h2, h3⟩
  unfold impl_adjacent.wk at h1
  obtain ⟨x, hx, h1⟩ := Option.bind_eq_some_iff.1 h1
  obtain ⟨t2, ht2, h1⟩ := Option.bind_eq_some_iff.1 h1
  obtain rfl := Option.some.inj h1
  refine ⟨true, (impl_adjacent.clo k w h A c l A1 c1 p a b x gm gt gv g lb w00 W1 J O HV.out t2 h2 h3 HR.out hc HR1.out hc1 hx).mono ?_⟩
  rintro e W' ⟨rfl, hj, hb⟩
  exact ⟨rfl, fun _ => ⟨t2, ht2, hj, hb⟩, fun hd => absurd hd (by decide)⟩
 case hend =>
  rintro W1 ⟨t, h1, h2, _⟩
  obtain rfl := Option.some.inj h1
  exact ⟨rfl, h2⟩
 rintro e w' ⟨rfl, hj⟩
 go_wp2
 go_end0
 exact ⟨rfl, hj⟩
/-- a captured slice to which a visitor appends: its box bo (cells of type t), its row (elements of type e) -/
def Acc {α : Type} (d : Kd α) (e t : TypeId) (w00 : World) (bo : Nat) (l : List α) (W : World) : Prop :=
 Below w00.heap.size w00 W ∧ w00.heap.size ≤ bo ∧ ∃ v, W.heap[bo]? = some (.cells #[v] t (0, 0)) ∧ d.R e W w00.heap.size (fun _ => True) v l
/-- the blocks that such a visitor may write -/
def AccO (t : TypeId) (bo : Nat) (W : World) (k : Nat) : Prop := k = bo ∨ ∃ v, W.heap[bo]? = some (.cells #[v] t (0, 0)) ∧ v.ownBlock = some k
section
variable {α : Type} {d : Kd α} {e t : TypeId} {w00 W W' : World} {bo : Nat} {l l' : List α}
theorem Acc.move (h : Acc d e t w00 bo l W) (hb : Below W.heap.size W W') : Acc d e t w00 bo l W' ∧ ∀ k, AccO t bo W' k → AccO t bo W k := by
 obtain ⟨h1, h2, v, h3, h4⟩ := h
 refine ⟨⟨qak h1 hb, h2, v, qam h3 hb, Kd.qav h4 hb⟩, fun k hk => ?_⟩
 rcases hk with hk | ⟨u, hu, hk⟩
 ·exact .inl hk
 ·refine .inr ⟨u, ?_, hk⟩
  rw [← hu]
  exact (hb.block bo (qbo h3)).symm
theorem Acc.lt (h : Acc d e t w00 bo l W) (k : Nat) (hk : AccO t bo W k) : k < W.heap.size := by
 obtain ⟨h1, h2, v, h3, h4⟩ := h
 rcases hk with rfl | ⟨u, hu, hk⟩
 ·exact qbo h3
 ·rw [h3] at hu
  injection hu with hu
  injection hu with hu
  injection hu with hu
  injection hu with hu
  subst hu
  obtain ⟨_, inner, ho, _⟩ := h4
  exact qdt ho k hk
theorem Acc.put {v v1 : Value} {w1 : World} (hB : Below w00.heap.size w00 w1) (h2 : w00.heap.size ≤ bo) (h3 : W.heap[bo]? = some (.cells #[v] t (0, 0))) (h4 : d.R e W w00.heap.size (fun _ => True) v l) (ht : ∀ q, q ∈ e :: d.E → q ≠ t)
  (hr : d.R e w1 w00.heap.size (fun _ => True) v1 l') (hg : W.grownBy w1 v.ownBlock) (hat : v1.ownBlock = v.ownBlock ∨ ∃ b, v1.ownBlock = some b ∧ W.heap.size ≤ b) :
  Acc d e t w00 bo l' (w1.setCell ⟨bo, 0, none⟩ v1) ∧ W.heap.size ≤ (w1.setCell ⟨bo, 0, none⟩ v1).heap.size ∧ (∀ k, k < W.heap.size → ¬ AccO t bo W k → (w1.setCell ⟨bo, 0, none⟩ v1).heap[k]? = W.heap[k]?) ∧ (∀ k, AccO t bo (w1.setCell ⟨bo, 0, none⟩ v1) k → AccO t bo W k ∨ W.heap.size ≤ k) := by
 have h5 : w1.heap[bo]? = some (.cells #[v] t (0, 0)) := qbr h3 hg (Kd.R_ne h4 h3 (ht e (by simp)))
 have h6 : (w1.setCell ⟨bo, 0, none⟩ v1).heap[bo]? = some (.cells #[v1] t (0, 0)) := qbi h5 0 _ rfl
 refine ⟨⟨qae hB h2, h2, v1, h6, Kd.R_set hr h5 ht 0 v1⟩, ?_, fun k hk no => ?_, fun k hk => ?_⟩
 ·have e1 := hg.size
  simpa [World.setCell] using e1
 ·have n1 : k ≠ bo := fun x => no (.inl x)
  have n2 : some k ≠ v.ownBlock := fun x => no (.inr ⟨v, h3, x.symm⟩)
  exact (Below.heap_setCell w1 ⟨bo, 0, none⟩ v1 k n1).trans (hg.block k hk n2)
 ·rcases hk with rfl | ⟨u, hu, hk⟩
  ·exact .inl (.inl rfl)
  ·rw [h6] at hu
   injection hu with hu
   injection hu with hu
   injection hu with hu
   injection hu with hu
   subst hu
   rcases hat with e1 | ⟨b, e1, hb⟩
   ·exact .inl (.inr ⟨v, h3, by rw [← e1]; exact hk⟩)
   ·rw [e1] at hk
    injection hk with hk
    exact .inr (by omega)
theorem Acc.same (h : Acc d e t w00 bo l W) : Acc d e t w00 bo l W ∧ W.heap.size ≤ W.heap.size ∧ (∀ k, k < W.heap.size → ¬ AccO t bo W k → W.heap[k]? = W.heap[k]?) ∧ (∀ k, AccO t bo W k → AccO t bo W k ∨ W.heap.size ≤ k) := ⟨h, Nat.le_refl _, fun _ _ _ => rfl, fun _ hk => .inl hk⟩
theorem Acc.start (d : Kd α) (e t : TypeId) (h : Below w00.heap.size w00 W) : Acc d e t w00 (W.heap.size + 1) [] ((W.alloc (.cells #[] e (0, 0))).alloc (.cells #[.slice (some ⟨W.heap.size, 0, none⟩) 0 0] t (0, 0))) := by
 have z := h.size
 refine ⟨qad (qad h _) _, by omega, .slice (some ⟨W.heap.size, 0, none⟩) 0 0, ?_, ?_⟩
 ·have q := qdd (W.alloc (.cells #[] e (0, 0))) (.cells #[.slice (some ⟨W.heap.size, 0, none⟩) 0 0] t (0, 0))
  simpa using q
 ·exact ⟨fun _ _ => trivial, [], (World.ownsRow_made W #[] 0 z (by simp) (by simp)).alloc _, Reps.none _ _⟩
end



-- NOT PRINTED: function 87 (impl_DependsOf_1)


/-! ### impl_compareDepends: function 119 -/
def impl_compareDepends.f (a0_0 : Int) (a0_1 : Int) (a1_0 : Int) (a1_1 : Int) : Option (Int) := if a0_0 = a1_0 then (some (wrap64 (a0_1 - a1_1))) else (some (wrap64 (a0_0 - a1_0)))
set_option maxHeartbeats 8000000 in
set_option maxRecDepth 100000 in
theorem impl_compareDepends.calls (a0_0 : Int) (a0_1 : Int) (a1_0 : Int) (a1_1 : Int) (r : Int) (w : World) (h : impl_compareDepends.f a0_0 a0_1 a1_0 a1_1 = some r) :
  Calls Try.prog 119 #[.agg #[.int .i64 a0_0, .int .i64 a0_1], .agg #[.int .i64 a1_0, .int .i64 a1_1]] w fun e w' => e = .returned (.int .i64 r) ∧ Below w.heap.size w w' := by
 have hu83 := Try.underlying83
 have HB := qab.mk (Below.refl w.heap.size w)
 have H : (if a0_0 = a1_0 then (some (wrap64 (a0_1 - a1_1))) else (some (wrap64 (a0_0 - a1_0)))) = some r := h
 clear h
 by_cases c3 : a0_0 = a1_0
 ·rw [if_pos c3] at H
  have c3b0 : (a0_0 == a1_0) = true := beq_iff_eq.mpr c3
  have c3b1 : (a0_0 != a1_0) = false := bne_eq_false_iff_eq.mpr c3
  clear c3
  obtain rfl := Option.some.inj H
  go_enter Try.func119, Try.ntmps119
  go_wp2_with (first | ((with_reducible refine qas (N := 2) rfl ?_); refine qar ?hg (N := 2) ?hd (cs := #[.int .i64 a0_0, .int .i64 a0_1]) (t := 83) ?hr ?_; (case hd => rfl); (case hg => rfl); (case hr => first | (go_simp; done) | (go_simp; rfl)); intro gb160 hg w4 hbox hb; have n0_ := qab.mk (qak (by repeat (first | (with_reducible first | exact HB.out | apply qad | apply qaa | apply qac) | exact HB.out)) hb); have n1_ := qab.mk (hbox); have n2_ := qab.mk ((by rw [hg]; exact (qal (by repeat (first | (with_reducible first | exact HB.out | apply qad | apply qaa | apply qac) | exact HB.out))) : w.heap.size ≤ gb160)); have n3_ := qab.mk ((by rw [hg]; exact (qal (by repeat (first | (with_reducible first | exact HB.out | apply qad | apply qaa | apply qac) | exact HB.out))) : w.heap.size ≤ gb160)); clear HB; have HB := n0_; have BK160 := n1_; have GW160 := n2_; have GE160 := n3_; clear n0_ n1_ n2_ n3_; clear hb hbox hg) | ((with_reducible refine qas (N := 3) rfl ?_); refine qar ?hg (N := 3) ?hd (cs := #[.int .i64 a1_0, .int .i64 a1_1]) (t := 83) ?hr ?_; (case hd => rfl); (case hg => rfl); (case hr => first | (go_simp; done) | (go_simp; rfl)); intro gb161 hg w5 hbox hb; have n0_ := qab.mk (qam (g := gb160) (o := .cells #[.int .i64 a0_0, .int .i64 a0_1] 83 (0, 0)) (by (with_reducible repeat (first | refine qag ?_ _ | refine qaj ?_ | refine qaf ?_ _)); exact BK160.out) hb); have n1_ := qab.mk (qak (by repeat (first | (with_reducible first | exact HB.out | apply qad | apply qaa | apply qac | refine qae ?_ GE160.out) | exact HB.out)) hb); have n2_ := qab.mk (hbox); have n3_ := qab.mk ((by rw [hg]; exact (qal (by repeat (first | (with_reducible first | exact HB.out | apply qad | apply qaa | apply qac | refine qae ?_ GE160.out) | exact HB.out))) : w.heap.size ≤ gb161)); have n4_ := qab.mk ((by rw [hg]; exact (qal (by repeat (first | (with_reducible first | exact HB.out | apply qad | apply qaa | apply qac | refine qae ?_ GE160.out) | exact HB.out))) : w.heap.size ≤ gb161)); have n5_ := qab.mk ((by rw [hg]; exact Nat.ne_of_lt (qbo (g := gb160) (o := .cells #[.int .i64 a0_0, .int .i64 a0_1] 83 (0, 0)) (by (with_reducible repeat (first | refine qag ?_ _ | refine qaj ?_ | refine qaf ?_ _)); exact BK160.out)) : gb160 ≠ gb161)); have n6_ := qab.mk ((by rw [hg]; exact Nat.ne_of_gt (qbo (g := gb160) (o := .cells #[.int .i64 a0_0, .int .i64 a0_1] 83 (0, 0)) (by (with_reducible repeat (first | refine qag ?_ _ | refine qaj ?_ | refine qaf ?_ _)); exact BK160.out)) : gb161 ≠ gb160)); clear BK160; clear HB; have BK160 := n0_; have HB := n1_; have BK161 := n2_; have GW161 := n3_; have GE161 := n4_; have NB160_161 := n5_; have NB161_160 := n6_; clear n0_ n1_ n2_ n3_ n4_ n5_ n6_; clear hb hbox hg; have hnb6 := NB160_161.out; have hnc6 := NB161_160.out; have hcz7_0 : w5.cell? ⟨gb160, 0, none⟩ = some (.int .i64 a0_0) := (qai BK160.out 0).trans rfl; have hcz7_1 : w5.cell? ⟨gb160, 1, none⟩ = some (.int .i64 a0_1) := (qai BK160.out 1).trans rfl; have hfz7_0 := qah BK160.out 0; have hfz7_1 := qah BK160.out 1; have hcz8_0 : w5.cell? ⟨gb161, 0, none⟩ = some (.int .i64 a1_0) := (qai BK161.out 0).trans rfl; have hcz8_1 : w5.cell? ⟨gb161, 1, none⟩ = some (.int .i64 a1_1) := (qai BK161.out 1).trans rfl; have hfz8_0 := qah BK161.out 0; have hfz8_1 := qah BK161.out 1))
  go_ret
  exact ⟨by first | rfl | (simp [errW_none, errW_some] <;> rfl) | (simp [*, errW_none, errW_some] <;> rfl), by repeat (first | (with_reducible first | exact HB.out | apply qad | apply qaa | apply qac | refine qae ?_ GE160.out | refine qae ?_ GE161.out) | exact HB.out)⟩
 ·rw [if_neg c3] at H
  have c3b0 : (a0_0 == a1_0) = false := beq_eq_false_iff_ne.mpr c3
  have c3b1 : (a0_0 != a1_0) = true := bne_iff_ne.mpr c3
  obtain rfl := Option.some.inj H
  go_enter Try.func119, Try.ntmps119
  go_wp2_with (first | ((with_reducible refine qas (N := 2) rfl ?_); refine qar ?hg (N := 2) ?hd (cs := #[.int .i64 a0_0, .int .i64 a0_1]) (t := 83) ?hr ?_; (case hd => rfl); (case hg => rfl); (case hr => first | (go_simp; done) | (go_simp; rfl)); intro gb160 hg w9 hbox hb; have n0_ := qab.mk (qak (by repeat (first | (with_reducible first | exact HB.out | apply qad | apply qaa | apply qac) | exact HB.out)) hb); have n1_ := qab.mk (hbox); have n2_ := qab.mk ((by rw [hg]; exact (qal (by repeat (first | (with_reducible first | exact HB.out | apply qad | apply qaa | apply qac) | exact HB.out))) : w.heap.size ≤ gb160)); have n3_ := qab.mk ((by rw [hg]; exact (qal (by repeat (first | (with_reducible first | exact HB.out | apply qad | apply qaa | apply qac) | exact HB.out))) : w.heap.size ≤ gb160)); clear HB; have HB := n0_; have BK160 := n1_; have GW160 := n2_; have GE160 := n3_; clear n0_ n1_ n2_ n3_; clear hb hbox hg) | ((with_reducible refine qas (N := 3) rfl ?_); refine qar ?hg (N := 3) ?hd (cs := #[.int .i64 a1_0, .int .i64 a1_1]) (t := 83) ?hr ?_; (case hd => rfl); (case hg => rfl); (case hr => first | (go_simp; done) | (go_simp; rfl)); intro gb161 hg w10 hbox hb; have n0_ := qab.mk (qam (g := gb160) (o := .cells #[.int .i64 a0_0, .int .i64 a0_1] 83 (0, 0)) (by (with_reducible repeat (first | refine qag ?_ _ | refine qaj ?_ | refine qaf ?_ _)); exact BK160.out) hb); have n1_ := qab.mk (qak (by repeat (first | (with_reducible first | exact HB.out | apply qad | apply qaa | apply qac | refine qae ?_ GE160.out) | exact HB.out)) hb); have n2_ := qab.mk (hbox); have n3_ := qab.mk ((by rw [hg]; exact (qal (by repeat (first | (with_reducible first | exact HB.out | apply qad | apply qaa | apply qac | refine qae ?_ GE160.out) | exact HB.out))) : w.heap.size ≤ gb161)); have n4_ := qab.mk ((by rw [hg]; exact (qal (by repeat (first | (with_reducible first | exact HB.out | apply qad | apply qaa | apply qac | refine qae ?_ GE160.out) | exact HB.out))) : w.heap.size ≤ gb161)); have n5_ := qab.mk ((by rw [hg]; exact Nat.ne_of_lt (qbo (g := gb160) (o := .cells #[.int .i64 a0_0, .int .i64 a0_1] 83 (0, 0)) (by (with_reducible repeat (first | refine qag ?_ _ | refine qaj ?_ | refine qaf ?_ _)); exact BK160.out)) : gb160 ≠ gb161)); have n6_ := qab.mk ((by rw [hg]; exact Nat.ne_of_gt (qbo (g := gb160) (o := .cells #[.int .i64 a0_0, .int .i64 a0_1] 83 (0, 0)) (by (with_reducible repeat (first | refine qag ?_ _ | refine qaj ?_ | refine qaf ?_ _)); exact BK160.out)) : gb161 ≠ gb160)); clear BK160; clear HB; have BK160 := n0_; have HB := n1_; have BK161 := n2_; have GW161 := n3_; have GE161 := n4_; have NB160_161 := n5_; have NB161_160 := n6_; clear n0_ n1_ n2_ n3_ n4_ n5_ n6_; clear hb hbox hg; have hnb11 := NB160_161.out; have hnc11 := NB161_160.out; have hcz12_0 : w10.cell? ⟨gb160, 0, none⟩ = some (.int .i64 a0_0) := (qai BK160.out 0).trans rfl; have hcz12_1 : w10.cell? ⟨gb160, 1, none⟩ = some (.int .i64 a0_1) := (qai BK160.out 1).trans rfl; have hfz12_0 := qah BK160.out 0; have hfz12_1 := qah BK160.out 1; have hcz13_0 : w10.cell? ⟨gb161, 0, none⟩ = some (.int .i64 a1_0) := (qai BK161.out 0).trans rfl; have hcz13_1 : w10.cell? ⟨gb161, 1, none⟩ = some (.int .i64 a1_1) := (qai BK161.out 1).trans rfl; have hfz13_0 := qah BK161.out 0; have hfz13_1 := qah BK161.out 1))
  go_ret
  exact ⟨by first | rfl | (simp [errW_none, errW_some] <;> rfl) | (simp [*, errW_none, errW_some] <;> rfl), by repeat (first | (with_reducible first | exact HB.out | apply qad | apply qaa | apply qac | refine qae ?_ GE160.out | refine qae ?_ GE161.out) | exact HB.out)⟩


-- NOT PRINTED: function 135 (impl_Depend_135)


-- NOT PRINTED: function 136 (impl_Depend_136)


end Go.Proofs.Ytmfkgnfjjfnfmaa.XV
