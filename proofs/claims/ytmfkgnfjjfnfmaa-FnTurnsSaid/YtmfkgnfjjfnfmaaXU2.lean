/- What is proved: contracts of functions of the program (each: where its Lean function answers, the call returns that answer); written by a program of this session. -/
import Derived.Test.YtmfkgnfjjfnfmaaXU0
import Derived.Test.YtmfkgnfjjfnfmaaXU1
namespace Go.Proofs.Ytmfkgnfjjfnfmaa.XU
open Go.RowKit Go.Proofs.YtmfkgnfjjfnfmaaW.PrintWords Go.Proofs.YtmfkgnfjjfnfmaaW.PrintLast Go.Proofs.YtmfkgnfjjfnfmaaW.PrintMore
attribute [local go_sem] max2_int min2_int max_two min_two max_three min_three max_four min_four   -- for this text's walks alone
set_option linter.unusedVariables false
set_option linter.unusedSimpArgs false

/-! ### impl_WalkTable: function 52 -/
mutual
def impl_WalkTable.j0 : Nat → Int → Int → Bool → Int → Int → List Int → List Int → Option (List Int)
  | 0, _, _, _, _, _, _, _ => none
  | k + 1, x2, x3, x33, x146000, x146001, x146002, x147000 => if x33 = true then (some ([] : List Int)) else (impl_WalkTable.l0 k x3 (([] : List Int)) x2 x146000 x146001 x146002 x147000)
def impl_WalkTable.l0 : Nat → Int → List Int → Int → Int → Int → List Int → List Int → Option (List Int)
  | 0, _, _, _, _, _, _, _ => none
  | k + 1, x3, x9, x10, x146000, x146001, x146002, x147000 => (impl_PortAt.f k x146000 x146001 x146002 x147000 x10 x3).bind fun t153 => (if t153 < 0 then (some ([] : List Int)) else (if t153 = 4 then (if x10 = x3 then (some x9) else (some ([] : List Int))) else ((impl_HasChannel.f k x146000 x146001 x146002 (wrap64 ((wrap64 (4 * x10)) + t153))).bind fun t154 => (if t154 = true then ((impl_NodeCount.f x146000 x146001).bind fun t155 => (if (x9.length : Int) = t155 then (some ([] : List Int)) else (if x9.length < 17592186044416 then ((impl_endOf.f x146000 x146001 x146002 (wrap64 ((wrap64 (4 * x10)) + t153))).bind fun t159 => (impl_WalkTable.l0 k x3 (x9 ++ [wrap64 ((wrap64 (4 * x10)) + t153)]) t159 x146000 x146001 x146002 x147000)) else (none)))) else (some ([] : List Int))))))
end
def impl_WalkTable.f (k : Nat) (a0_0 : Int) (a0_1 : Int) (l0_2 : List Int) (l1_0 : List Int) (a2 : Int) (a3 : Int) : Option (List Int) := if a2 = a3 then (impl_WalkTable.j0 k a2 a3 true a0_0 a0_1 l0_2 l1_0) else ((impl_MeshOk.f k a0_0 a0_1 l0_2).bind fun t147 => (if t147 = true then ((impl_isNode.f a0_0 a0_1 a2).bind fun t148 => (if t148 = true then ((impl_isNode.f a0_0 a0_1 a3).bind fun t149 => (impl_WalkTable.j0 k a2 a3 (!t149) a0_0 a0_1 l0_2 l1_0)) else (impl_WalkTable.j0 k a2 a3 true a0_0 a0_1 l0_2 l1_0))) else (impl_WalkTable.j0 k a2 a3 true a0_0 a0_1 l0_2 l1_0)))
theorem impl_WalkTable.mono_l : ∀ k, (∀ y0 y1 y2 y3 y4 y5 y6, LeO (impl_WalkTable.j0 k y0 y1 y2 y3 y4 y5 y6) (impl_WalkTable.j0 (k + 1) y0 y1 y2 y3 y4 y5 y6)) ∧ (∀ y0 y1 y2 y3 y4 y5 y6, LeO (impl_WalkTable.l0 k y0 y1 y2 y3 y4 y5 y6) (impl_WalkTable.l0 (k + 1) y0 y1 y2 y3 y4 y5 y6))
  | 0 => ⟨fun _ _ _ _ _ _ _ r h => by simp [impl_WalkTable.j0] at h, fun _ _ _ _ _ _ _ r h => by simp [impl_WalkTable.l0] at h⟩
  | k + 1 => by
    obtain ⟨ih0, ih1⟩ := impl_WalkTable.mono_l k
    refine ⟨?_, ?_⟩
    · intro y0 y1 y2 y3 y4 y5 y6
      unfold impl_WalkTable.j0
      repeat' first
      | (with_reducible exact ih0 _ _ _ _ _ _ _)
      | (with_reducible exact ih1 _ _ _ _ _ _ _)
      | (with_reducible exact impl_HasChannel.mono _ _ _ _ _)
      | (with_reducible exact impl_MeshOk.mono _ _ _ _)
      | (with_reducible exact impl_PortAt.mono _ _ _ _ _ _ _)
      | (with_reducible exact LeO.refl _)
      | (with_reducible exact LeO.none _)
      | (with_reducible refine LeO.ite ?_ ?_)
      | (with_reducible refine LeO.bind ?_ (fun _ => ?_))
      | exact ih0 _ _ _ _ _ _ _
      | exact ih1 _ _ _ _ _ _ _
      | exact impl_HasChannel.mono _ _ _ _ _
      | exact impl_MeshOk.mono _ _ _ _
      | exact impl_PortAt.mono _ _ _ _ _ _ _
      | exact LeO.none _
      | refine LeO.ite ?_ ?_
      | refine LeO.bind ?_ (fun _ => ?_)
    · intro y0 y1 y2 y3 y4 y5 y6
      unfold impl_WalkTable.l0
      repeat' first
      | (with_reducible exact ih0 _ _ _ _ _ _ _)
      | (with_reducible exact ih1 _ _ _ _ _ _ _)
      | (with_reducible exact impl_HasChannel.mono _ _ _ _ _)
      | (with_reducible exact impl_MeshOk.mono _ _ _ _)
      | (with_reducible exact impl_PortAt.mono _ _ _ _ _ _ _)
      | (with_reducible exact LeO.refl _)
      | (with_reducible exact LeO.none _)
      | (with_reducible refine LeO.ite ?_ ?_)
      | (with_reducible refine LeO.bind ?_ (fun _ => ?_))
      | exact ih0 _ _ _ _ _ _ _
      | exact ih1 _ _ _ _ _ _ _
      | exact impl_HasChannel.mono _ _ _ _ _
      | exact impl_MeshOk.mono _ _ _ _
      | exact impl_PortAt.mono _ _ _ _ _ _ _
      | exact LeO.none _
      | refine LeO.ite ?_ ?_
      | refine LeO.bind ?_ (fun _ => ?_)
theorem impl_WalkTable.mono : ∀ a0 a1 a2 a3 a4 a5 k, LeO (impl_WalkTable.f k a0 a1 a2 a3 a4 a5) (impl_WalkTable.f (k + 1) a0 a1 a2 a3 a4 a5) := by
  intro a0 a1 a2 a3 a4 a5 k
  obtain ⟨ih0, ih1⟩ := impl_WalkTable.mono_l k
  unfold impl_WalkTable.f
  repeat' first
      | (with_reducible exact ih0 _ _ _ _ _ _ _)
      | (with_reducible exact ih1 _ _ _ _ _ _ _)
      | (with_reducible exact impl_HasChannel.mono _ _ _ _ _)
      | (with_reducible exact impl_MeshOk.mono _ _ _ _)
      | (with_reducible exact impl_PortAt.mono _ _ _ _ _ _ _)
      | (with_reducible exact LeO.refl _)
      | (with_reducible exact LeO.none _)
      | (with_reducible refine LeO.ite ?_ ?_)
      | (with_reducible refine LeO.bind ?_ (fun _ => ?_))
      | exact ih0 _ _ _ _ _ _ _
      | exact ih1 _ _ _ _ _ _ _
      | exact impl_HasChannel.mono _ _ _ _ _
      | exact impl_MeshOk.mono _ _ _ _
      | exact impl_PortAt.mono _ _ _ _ _ _ _
      | exact LeO.none _
      | refine LeO.ite ?_ ?_
      | refine LeO.bind ?_ (fun _ => ?_)
set_option maxHeartbeats 8000000 in
set_option maxRecDepth 100000 in
theorem impl_WalkTable.calls (k : Nat) (a0_0 : Int) (a0_1 : Int) (A0_2 : Option Addr) (c0_2 : Nat) (l0_2 : List Int) (A1_0 : Option Addr) (c1_0 : Nat) (l1_0 : List Int) (a2 : Int) (a3 : Int) (r : List Int) (w : World) (hr0_2 : Kd.C (Kd.int .i64) w A0_2 l0_2.length l0_2) (hc0_2 : l0_2.length ≤ c0_2) (hr1_0 : Kd.C (Kd.int .i64) w A1_0 l1_0.length l1_0) (hc1_0 : l1_0.length ≤ c1_0) (h : impl_WalkTable.f k a0_0 a0_1 l0_2 l1_0 a2 a3 = some r) :
    Calls Try.prog 52 #[.agg #[.int .i64 a0_0, .int .i64 a0_1, .slice A0_2 l0_2.length c0_2], .agg #[.slice A1_0 l1_0.length c1_0], .int .i64 a2, .int .i64 a3] w fun e w' => ∃ v0_ : Value, e = .returned (v0_) ∧ Kd.R (Kd.int .i64) 3 w' w.heap.size (fun _ => True) v0_ r ∧ Below w.heap.size w w' := by
  have hu34 := Try.underlying34
  have hu36 := Try.underlying36
  have hu32 := Try.underlying32
  have HR0_2 := Aside0.mk hr0_2
  have HC0_2 := Aside0.mk hc0_2
  clear hr0_2 hc0_2
  have HR1_0 := Aside0.mk hr1_0
  have HC1_0 := Aside0.mk hc1_0
  clear hr1_0 hc1_0
  have HB := Aside0.mk (Below.refl w.heap.size w)
  have H : (if a2 = a3 then (impl_WalkTable.j0 k a2 a3 true a0_0 a0_1 l0_2 l1_0) else ((impl_MeshOk.f k a0_0 a0_1 l0_2).bind fun t147 => (if t147 = true then ((impl_isNode.f a0_0 a0_1 a2).bind fun t148 => (if t148 = true then ((impl_isNode.f a0_0 a0_1 a3).bind fun t149 => (impl_WalkTable.j0 k a2 a3 (!t149) a0_0 a0_1 l0_2 l1_0)) else (impl_WalkTable.j0 k a2 a3 true a0_0 a0_1 l0_2 l1_0))) else (impl_WalkTable.j0 k a2 a3 true a0_0 a0_1 l0_2 l1_0)))) = some r := h
  clear h
  have HC5 := Aside0.mk H
  clear H
  go_enter Try.func52, Try.ntmps52
  go_upto_region 1 with (first | ((with_reducible refine gate_dst (N := 4) rfl ?_); (try (refine gate_guard (by rfl) ?_; dsimp only)); refine box_event ?hg (N := 4) ?hd (cs := #[.int .i64 a0_0, .int .i64 a0_1, .slice A0_2 l0_2.length c0_2]) (t := 34) ?hr ?_; (case hd => rfl); (case hg => rfl); (case hr => first | (go_simp; done) | (go_simp; rfl)); intro gb145 hg w6 hbox hb; have n0_ := Aside0.mk (below_step (by repeat (first | (with_reducible first | exact HB.out | apply below_alloc | apply pw_below_drewN | apply below_drew1) | exact HB.out)) hb); have n1_ := Aside0.mk (hbox); have n2_ := Aside0.mk ((by rw [hg]; exact (below_size (by repeat (first | (with_reducible first | exact HB.out | apply below_alloc | apply pw_below_drewN | apply below_drew1) | exact HB.out))) : w.heap.size ≤ gb145)); have n3_ := Aside0.mk ((by rw [hg]; exact (below_size (by repeat (first | (with_reducible first | exact HB.out | apply below_alloc | apply pw_below_drewN | apply below_drew1) | exact HB.out))) : w.heap.size ≤ gb145)); clear HB; have HB := n0_; have BK145 := n1_; have GW145 := n2_; have GE145 := n3_; clear n0_ n1_ n2_ n3_; clear hb hbox hg) | ((with_reducible refine gate_dst (N := 5) rfl ?_); (try (refine gate_guard (by rfl) ?_; dsimp only)); refine box_event ?hg (N := 5) ?hd (cs := #[.slice A1_0 l1_0.length c1_0]) (t := 36) ?hr ?_; (case hd => rfl); (case hg => rfl); (case hr => first | (go_simp; done) | (go_simp; rfl)); intro gb146 hg w7 hbox hb; have n0_ := Aside0.mk (blk_below (g := gb145) (o := .cells #[.int .i64 a0_0, .int .i64 a0_1, .slice A0_2 l0_2.length c0_2] 34 (0, 0)) (by (with_reducible repeat (first | refine blk_drewN ?_ _ | refine blk_drew ?_ | refine blk_alloc ?_ _)); exact BK145.out) hb); have n1_ := Aside0.mk (below_step (by repeat (first | (with_reducible first | exact HB.out | apply below_alloc | apply pw_below_drewN | apply below_drew1 | refine below_set ?_ GE145.out) | exact HB.out)) hb); have n2_ := Aside0.mk (hbox); have n3_ := Aside0.mk ((by rw [hg]; exact (below_size (by repeat (first | (with_reducible first | exact HB.out | apply below_alloc | apply pw_below_drewN | apply below_drew1 | refine below_set ?_ GE145.out) | exact HB.out))) : w.heap.size ≤ gb146)); have n4_ := Aside0.mk ((by rw [hg]; exact (below_size (by repeat (first | (with_reducible first | exact HB.out | apply below_alloc | apply pw_below_drewN | apply below_drew1 | refine below_set ?_ GE145.out) | exact HB.out))) : w.heap.size ≤ gb146)); have n5_ := Aside0.mk ((by rw [hg]; exact Nat.ne_of_lt (blk_lt (g := gb145) (o := .cells #[.int .i64 a0_0, .int .i64 a0_1, .slice A0_2 l0_2.length c0_2] 34 (0, 0)) (by (with_reducible repeat (first | refine blk_drewN ?_ _ | refine blk_drew ?_ | refine blk_alloc ?_ _)); exact BK145.out)) : gb145 ≠ gb146)); have n6_ := Aside0.mk ((by rw [hg]; exact Nat.ne_of_gt (blk_lt (g := gb145) (o := .cells #[.int .i64 a0_0, .int .i64 a0_1, .slice A0_2 l0_2.length c0_2] 34 (0, 0)) (by (with_reducible repeat (first | refine blk_drewN ?_ _ | refine blk_drew ?_ | refine blk_alloc ?_ _)); exact BK145.out)) : gb146 ≠ gb145)); clear BK145; clear HB; have BK145 := n0_; have HB := n1_; have BK146 := n2_; have GW146 := n3_; have GE146 := n4_; have NB145_146 := n5_; have NB146_145 := n6_; clear n0_ n1_ n2_ n3_ n4_ n5_ n6_; clear hb hbox hg))
  (try simp only [Act.put, List.setIfInBounds_toArray, List.set_cons_zero, List.set_cons_succ])
  go_cut [33] (fun v33 wc => ∃ (kq : Nat) (x33_4 : Bool), v33 = .bool x33_4 ∧ Aside0 (impl_WalkTable.j0 kq a2 a3 x33_4 a0_0 a0_1 l0_2 l1_0 = some r) ∧ Aside0 (kq ≤ k) ∧ Aside0 (wc.heap[gb145]? = some (.cells #[.int .i64 a0_0, .int .i64 a0_1, (.slice A0_2 l0_2.length c0_2)] 34 (0, 0))) ∧ Aside0 (wc.heap[gb146]? = some (.cells #[(.slice A1_0 l1_0.length c1_0)] 36 (0, 0))) ∧ Aside0 (Below w.heap.size w wc))
  case first =>
    have H := HC5.out
    clear HC5
    by_cases c8 : a2 = a3
    · rw [if_pos c8] at H
      have c8b0 : (a2 == a3) = true := beq_iff_eq.mpr c8
      have c8b1 : (a2 != a3) = false := bne_eq_false_iff_eq.mpr c8
      clear c8
      (first | rw [c8b0] | (simp only [i64_w, i32_w]; rw [c8b0]) | skip)
      have H' := Aside0.mk H
      clear H
      go_wp2
      go_meet
      case rel => exact ⟨_, (true), (by first | rfl | (simp; done) | (simp [*]; done)), H', ⟨by first | omega | exact Nat.le_refl _⟩, ⟨by (with_reducible repeat (first | refine blk_drewN ?_ _ | refine blk_drew ?_ | refine blk_alloc ?_ _)); exact BK145.out⟩, ⟨by (with_reducible repeat (first | refine blk_drewN ?_ _ | refine blk_drew ?_ | refine blk_alloc ?_ _)); exact BK146.out⟩, ⟨by repeat (first | (with_reducible first | exact HB.out | apply below_alloc | apply pw_below_drewN | apply below_drew1 | refine below_set ?_ GE145.out | refine below_set ?_ GE146.out) | exact HB.out)⟩⟩
    · rw [if_neg c8] at H
      have c8b0 : (a2 == a3) = false := beq_eq_false_iff_ne.mpr c8
      have c8b1 : (a2 != a3) = true := bne_iff_ne.mpr c8
      (first | rw [c8b0] | (simp only [i64_w, i32_w]; rw [c8b0]) | skip)
      replace H := Option.bind_eq_some_iff.mp H
      obtain ⟨t147, A90, H⟩ := H
      replace H : (if t147 = true then ((impl_isNode.f a0_0 a0_1 a2).bind fun t148 => (if t148 = true then ((impl_isNode.f a0_0 a0_1 a3).bind fun t149 => (impl_WalkTable.j0 k a2 a3 (!t149) a0_0 a0_1 l0_2 l1_0)) else (impl_WalkTable.j0 k a2 a3 true a0_0 a0_1 l0_2 l1_0))) else (impl_WalkTable.j0 k a2 a3 true a0_0 a0_1 l0_2 l1_0)) = some r := H
      have A9 := Aside0.mk A90
      clear A90
      by_cases c10 : t147 = true
      · subst c10
        have H1 : ((impl_isNode.f a0_0 a0_1 a2).bind fun t148 => (if t148 = true then ((impl_isNode.f a0_0 a0_1 a3).bind fun t149 => (impl_WalkTable.j0 k a2 a3 (!t149) a0_0 a0_1 l0_2 l1_0)) else (impl_WalkTable.j0 k a2 a3 true a0_0 a0_1 l0_2 l1_0))) = some r := by rw [if_pos rfl] at H; exact H
        clear H
        have H := H1
        clear H1
        replace H := Option.bind_eq_some_iff.mp H
        obtain ⟨t148, A110, H⟩ := H
        replace H : (if t148 = true then ((impl_isNode.f a0_0 a0_1 a3).bind fun t149 => (impl_WalkTable.j0 k a2 a3 (!t149) a0_0 a0_1 l0_2 l1_0)) else (impl_WalkTable.j0 k a2 a3 true a0_0 a0_1 l0_2 l1_0)) = some r := H
        have A11 := Aside0.mk A110
        clear A110
        by_cases c12 : t148 = true
        · subst c12
          have H1 : ((impl_isNode.f a0_0 a0_1 a3).bind fun t149 => (impl_WalkTable.j0 k a2 a3 (!t149) a0_0 a0_1 l0_2 l1_0)) = some r := by rw [if_pos rfl] at H; exact H
          clear H
          have H := H1
          clear H1
          replace H := Option.bind_eq_some_iff.mp H
          obtain ⟨t149, A130, H⟩ := H
          replace H : (impl_WalkTable.j0 k a2 a3 (!t149) a0_0 a0_1 l0_2 l1_0) = some r := H
          have A13 := Aside0.mk A130
          clear A130
          have H' := Aside0.mk H
          clear H
          have hnb14 := NB145_146.out
          have hnc14 := NB146_145.out
          have hcz15_0 : w7.cell? ⟨gb145, 0, none⟩ = some (.int .i64 a0_0) := (blk_cell BK145.out 0).trans rfl
          have hcz15_1 : w7.cell? ⟨gb145, 1, none⟩ = some (.int .i64 a0_1) := (blk_cell BK145.out 1).trans rfl
          have hcz15_2 : w7.cell? ⟨gb145, 2, none⟩ = some (.slice A0_2 l0_2.length c0_2) := (blk_cell BK145.out 2).trans rfl
          have hfz15_0 := blk_frozen BK145.out 0
          have hfz15_1 := blk_frozen BK145.out 1
          have hfz15_2 := blk_frozen BK145.out 2
          go_wp2_with (first | (go_at_call 101; (with_reducible refine (impl_MeshOk.calls k a0_0 a0_1 _ _ l0_2 true _ ?side1 ?side2 A9.out).mono ?_); (case side1 => repeat (first | exact (Kd.C_below HR0_2.out HB.out) | (with_reducible refine Kd.C_alloc ?_ _) | (with_reducible refine Kd.C_drewN ?_ _) | (with_reducible refine Kd.C_drew ?_))); (case side2 => exact HC0_2.out); rintro e w16 ⟨rfl, hb⟩; have n0_ := Aside0.mk (blk_below (g := gb145) (o := .cells #[.int .i64 a0_0, .int .i64 a0_1, .slice A0_2 l0_2.length c0_2] 34 (0, 0)) (by (with_reducible repeat (first | refine blk_drewN ?_ _ | refine blk_drew ?_ | refine blk_alloc ?_ _)); exact BK145.out) hb); have n1_ := Aside0.mk (blk_below (g := gb146) (o := .cells #[.slice A1_0 l1_0.length c1_0] 36 (0, 0)) (by (with_reducible repeat (first | refine blk_drewN ?_ _ | refine blk_drew ?_ | refine blk_alloc ?_ _)); exact BK146.out) hb); have n2_ := Aside0.mk (below_step (by repeat (first | (with_reducible first | exact HB.out | apply below_alloc | apply pw_below_drewN | apply below_drew1 | refine below_set ?_ GE145.out | refine below_set ?_ GE146.out) | exact HB.out)) hb); clear BK145; clear BK146; clear HB; have BK145 := n0_; have BK146 := n1_; have HB := n2_; clear n0_ n1_ n2_; (try clear hb); (try clear hb2); (try clear hk); (try clear hi); have hcz17_0 : w16.cell? ⟨gb145, 0, none⟩ = some (.int .i64 a0_0) := (blk_cell BK145.out 0).trans rfl; have hcz17_1 : w16.cell? ⟨gb145, 1, none⟩ = some (.int .i64 a0_1) := (blk_cell BK145.out 1).trans rfl; have hcz17_2 : w16.cell? ⟨gb145, 2, none⟩ = some (.slice A0_2 l0_2.length c0_2) := (blk_cell BK145.out 2).trans rfl; have hfz17_0 := blk_frozen BK145.out 0; have hfz17_1 := blk_frozen BK145.out 1; have hfz17_2 := blk_frozen BK145.out 2) | (go_at_call 108; (with_reducible refine (impl_isNode.calls a0_0 a0_1 a2 true _ A11.out).mono ?_); rintro e w18 ⟨rfl, hb⟩; have n0_ := Aside0.mk (blk_below (g := gb145) (o := .cells #[.int .i64 a0_0, .int .i64 a0_1, .slice A0_2 l0_2.length c0_2] 34 (0, 0)) (by (with_reducible repeat (first | refine blk_drewN ?_ _ | refine blk_drew ?_ | refine blk_alloc ?_ _)); exact BK145.out) hb); have n1_ := Aside0.mk (blk_below (g := gb146) (o := .cells #[.slice A1_0 l1_0.length c1_0] 36 (0, 0)) (by (with_reducible repeat (first | refine blk_drewN ?_ _ | refine blk_drew ?_ | refine blk_alloc ?_ _)); exact BK146.out) hb); have n2_ := Aside0.mk (below_step (by repeat (first | (with_reducible first | exact HB.out | apply below_alloc | apply pw_below_drewN | apply below_drew1 | refine below_set ?_ GE145.out | refine below_set ?_ GE146.out) | exact HB.out)) hb); clear BK145; clear BK146; clear HB; have BK145 := n0_; have BK146 := n1_; have HB := n2_; clear n0_ n1_ n2_; (try clear hb); (try clear hb2); (try clear hk); (try clear hi); have hcz19_0 : w18.cell? ⟨gb145, 0, none⟩ = some (.int .i64 a0_0) := (blk_cell BK145.out 0).trans rfl; have hcz19_1 : w18.cell? ⟨gb145, 1, none⟩ = some (.int .i64 a0_1) := (blk_cell BK145.out 1).trans rfl; have hcz19_2 : w18.cell? ⟨gb145, 2, none⟩ = some (.slice A0_2 l0_2.length c0_2) := (blk_cell BK145.out 2).trans rfl; have hfz19_0 := blk_frozen BK145.out 0; have hfz19_1 := blk_frozen BK145.out 1; have hfz19_2 := blk_frozen BK145.out 2) | (go_at_call 108; (with_reducible refine (impl_isNode.calls a0_0 a0_1 a3 t149 _ A13.out).mono ?_); rintro e w20 ⟨rfl, hb⟩; have n0_ := Aside0.mk (blk_below (g := gb145) (o := .cells #[.int .i64 a0_0, .int .i64 a0_1, .slice A0_2 l0_2.length c0_2] 34 (0, 0)) (by (with_reducible repeat (first | refine blk_drewN ?_ _ | refine blk_drew ?_ | refine blk_alloc ?_ _)); exact BK145.out) hb); have n1_ := Aside0.mk (blk_below (g := gb146) (o := .cells #[.slice A1_0 l1_0.length c1_0] 36 (0, 0)) (by (with_reducible repeat (first | refine blk_drewN ?_ _ | refine blk_drew ?_ | refine blk_alloc ?_ _)); exact BK146.out) hb); have n2_ := Aside0.mk (below_step (by repeat (first | (with_reducible first | exact HB.out | apply below_alloc | apply pw_below_drewN | apply below_drew1 | refine below_set ?_ GE145.out | refine below_set ?_ GE146.out) | exact HB.out)) hb); clear BK145; clear BK146; clear HB; have BK145 := n0_; have BK146 := n1_; have HB := n2_; clear n0_ n1_ n2_; (try clear hb); (try clear hb2); (try clear hk); (try clear hi)))
          go_meet
          case rel => exact ⟨_, (!t149), (by first | rfl | (simp; done) | (simp [*]; done)), H', ⟨by first | omega | exact Nat.le_refl _⟩, ⟨by (with_reducible repeat (first | refine blk_drewN ?_ _ | refine blk_drew ?_ | refine blk_alloc ?_ _)); exact BK145.out⟩, ⟨by (with_reducible repeat (first | refine blk_drewN ?_ _ | refine blk_drew ?_ | refine blk_alloc ?_ _)); exact BK146.out⟩, ⟨by repeat (first | (with_reducible first | exact HB.out | apply below_alloc | apply pw_below_drewN | apply below_drew1 | refine below_set ?_ GE145.out | refine below_set ?_ GE146.out) | exact HB.out)⟩⟩
        · replace c12 := Bool.eq_false_iff.mpr c12
          subst c12
          have H1 : (impl_WalkTable.j0 k a2 a3 true a0_0 a0_1 l0_2 l1_0) = some r := by rw [if_neg (show ¬ (false = true) by decide)] at H; exact H
          clear H
          have H := H1
          clear H1
          have H' := Aside0.mk H
          clear H
          have hnb21 := NB145_146.out
          have hnc21 := NB146_145.out
          have hcz22_0 : w7.cell? ⟨gb145, 0, none⟩ = some (.int .i64 a0_0) := (blk_cell BK145.out 0).trans rfl
          have hcz22_1 : w7.cell? ⟨gb145, 1, none⟩ = some (.int .i64 a0_1) := (blk_cell BK145.out 1).trans rfl
          have hcz22_2 : w7.cell? ⟨gb145, 2, none⟩ = some (.slice A0_2 l0_2.length c0_2) := (blk_cell BK145.out 2).trans rfl
          have hfz22_0 := blk_frozen BK145.out 0
          have hfz22_1 := blk_frozen BK145.out 1
          have hfz22_2 := blk_frozen BK145.out 2
          go_wp2_with (first | (go_at_call 101; (with_reducible refine (impl_MeshOk.calls k a0_0 a0_1 _ _ l0_2 true _ ?side1 ?side2 A9.out).mono ?_); (case side1 => repeat (first | exact (Kd.C_below HR0_2.out HB.out) | (with_reducible refine Kd.C_alloc ?_ _) | (with_reducible refine Kd.C_drewN ?_ _) | (with_reducible refine Kd.C_drew ?_))); (case side2 => exact HC0_2.out); rintro e w23 ⟨rfl, hb⟩; have n0_ := Aside0.mk (blk_below (g := gb145) (o := .cells #[.int .i64 a0_0, .int .i64 a0_1, .slice A0_2 l0_2.length c0_2] 34 (0, 0)) (by (with_reducible repeat (first | refine blk_drewN ?_ _ | refine blk_drew ?_ | refine blk_alloc ?_ _)); exact BK145.out) hb); have n1_ := Aside0.mk (blk_below (g := gb146) (o := .cells #[.slice A1_0 l1_0.length c1_0] 36 (0, 0)) (by (with_reducible repeat (first | refine blk_drewN ?_ _ | refine blk_drew ?_ | refine blk_alloc ?_ _)); exact BK146.out) hb); have n2_ := Aside0.mk (below_step (by repeat (first | (with_reducible first | exact HB.out | apply below_alloc | apply pw_below_drewN | apply below_drew1 | refine below_set ?_ GE145.out | refine below_set ?_ GE146.out) | exact HB.out)) hb); clear BK145; clear BK146; clear HB; have BK145 := n0_; have BK146 := n1_; have HB := n2_; clear n0_ n1_ n2_; (try clear hb); (try clear hb2); (try clear hk); (try clear hi); have hcz24_0 : w23.cell? ⟨gb145, 0, none⟩ = some (.int .i64 a0_0) := (blk_cell BK145.out 0).trans rfl; have hcz24_1 : w23.cell? ⟨gb145, 1, none⟩ = some (.int .i64 a0_1) := (blk_cell BK145.out 1).trans rfl; have hcz24_2 : w23.cell? ⟨gb145, 2, none⟩ = some (.slice A0_2 l0_2.length c0_2) := (blk_cell BK145.out 2).trans rfl; have hfz24_0 := blk_frozen BK145.out 0; have hfz24_1 := blk_frozen BK145.out 1; have hfz24_2 := blk_frozen BK145.out 2) | (go_at_call 108; (with_reducible refine (impl_isNode.calls a0_0 a0_1 a2 false _ A11.out).mono ?_); rintro e w25 ⟨rfl, hb⟩; have n0_ := Aside0.mk (blk_below (g := gb145) (o := .cells #[.int .i64 a0_0, .int .i64 a0_1, .slice A0_2 l0_2.length c0_2] 34 (0, 0)) (by (with_reducible repeat (first | refine blk_drewN ?_ _ | refine blk_drew ?_ | refine blk_alloc ?_ _)); exact BK145.out) hb); have n1_ := Aside0.mk (blk_below (g := gb146) (o := .cells #[.slice A1_0 l1_0.length c1_0] 36 (0, 0)) (by (with_reducible repeat (first | refine blk_drewN ?_ _ | refine blk_drew ?_ | refine blk_alloc ?_ _)); exact BK146.out) hb); have n2_ := Aside0.mk (below_step (by repeat (first | (with_reducible first | exact HB.out | apply below_alloc | apply pw_below_drewN | apply below_drew1 | refine below_set ?_ GE145.out | refine below_set ?_ GE146.out) | exact HB.out)) hb); clear BK145; clear BK146; clear HB; have BK145 := n0_; have BK146 := n1_; have HB := n2_; clear n0_ n1_ n2_; (try clear hb); (try clear hb2); (try clear hk); (try clear hi)))
          go_meet
          case rel => exact ⟨_, (true), (by first | rfl | (simp; done) | (simp [*]; done)), H', ⟨by first | omega | exact Nat.le_refl _⟩, ⟨by (with_reducible repeat (first | refine blk_drewN ?_ _ | refine blk_drew ?_ | refine blk_alloc ?_ _)); exact BK145.out⟩, ⟨by (with_reducible repeat (first | refine blk_drewN ?_ _ | refine blk_drew ?_ | refine blk_alloc ?_ _)); exact BK146.out⟩, ⟨by repeat (first | (with_reducible first | exact HB.out | apply below_alloc | apply pw_below_drewN | apply below_drew1 | refine below_set ?_ GE145.out | refine below_set ?_ GE146.out) | exact HB.out)⟩⟩
      · replace c10 := Bool.eq_false_iff.mpr c10
        subst c10
        have H1 : (impl_WalkTable.j0 k a2 a3 true a0_0 a0_1 l0_2 l1_0) = some r := by rw [if_neg (show ¬ (false = true) by decide)] at H; exact H
        clear H
        have H := H1
        clear H1
        have H' := Aside0.mk H
        clear H
        have hnb26 := NB145_146.out
        have hnc26 := NB146_145.out
        have hcz27_0 : w7.cell? ⟨gb145, 0, none⟩ = some (.int .i64 a0_0) := (blk_cell BK145.out 0).trans rfl
        have hcz27_1 : w7.cell? ⟨gb145, 1, none⟩ = some (.int .i64 a0_1) := (blk_cell BK145.out 1).trans rfl
        have hcz27_2 : w7.cell? ⟨gb145, 2, none⟩ = some (.slice A0_2 l0_2.length c0_2) := (blk_cell BK145.out 2).trans rfl
        have hfz27_0 := blk_frozen BK145.out 0
        have hfz27_1 := blk_frozen BK145.out 1
        have hfz27_2 := blk_frozen BK145.out 2
        go_wp2_with (first | (go_at_call 101; (with_reducible refine (impl_MeshOk.calls k a0_0 a0_1 _ _ l0_2 false _ ?side1 ?side2 A9.out).mono ?_); (case side1 => repeat (first | exact (Kd.C_below HR0_2.out HB.out) | (with_reducible refine Kd.C_alloc ?_ _) | (with_reducible refine Kd.C_drewN ?_ _) | (with_reducible refine Kd.C_drew ?_))); (case side2 => exact HC0_2.out); rintro e w28 ⟨rfl, hb⟩; have n0_ := Aside0.mk (blk_below (g := gb145) (o := .cells #[.int .i64 a0_0, .int .i64 a0_1, .slice A0_2 l0_2.length c0_2] 34 (0, 0)) (by (with_reducible repeat (first | refine blk_drewN ?_ _ | refine blk_drew ?_ | refine blk_alloc ?_ _)); exact BK145.out) hb); have n1_ := Aside0.mk (blk_below (g := gb146) (o := .cells #[.slice A1_0 l1_0.length c1_0] 36 (0, 0)) (by (with_reducible repeat (first | refine blk_drewN ?_ _ | refine blk_drew ?_ | refine blk_alloc ?_ _)); exact BK146.out) hb); have n2_ := Aside0.mk (below_step (by repeat (first | (with_reducible first | exact HB.out | apply below_alloc | apply pw_below_drewN | apply below_drew1 | refine below_set ?_ GE145.out | refine below_set ?_ GE146.out) | exact HB.out)) hb); clear BK145; clear BK146; clear HB; have BK145 := n0_; have BK146 := n1_; have HB := n2_; clear n0_ n1_ n2_; (try clear hb); (try clear hb2); (try clear hk); (try clear hi)))
        go_meet
        case rel => exact ⟨_, (true), (by first | rfl | (simp; done) | (simp [*]; done)), H', ⟨by first | omega | exact Nat.le_refl _⟩, ⟨by (with_reducible repeat (first | refine blk_drewN ?_ _ | refine blk_drew ?_ | refine blk_alloc ?_ _)); exact BK145.out⟩, ⟨by (with_reducible repeat (first | refine blk_drewN ?_ _ | refine blk_drew ?_ | refine blk_alloc ?_ _)); exact BK146.out⟩, ⟨by repeat (first | (with_reducible first | exact HB.out | apply below_alloc | apply pw_below_drewN | apply below_drew1 | refine below_set ?_ GE145.out | refine below_set ?_ GE146.out) | exact HB.out)⟩⟩
  case rest =>
    clear HC5
    try clear c1
    try clear c2
    try clear p2
    try clear c5
    try clear c8
    try clear c8b0
    try clear c8b1
    try clear c10
    try clear c12
    try clear c14
    try clear c21
    try clear c26
    try clear hcz15_0
    try clear hcz15_1
    try clear hcz15_2
    try clear hcz17_0
    try clear hcz17_1
    try clear hcz17_2
    try clear hcz19_0
    try clear hcz19_1
    try clear hcz19_2
    try clear hcz22_0
    try clear hcz22_1
    try clear hcz22_2
    try clear hcz24_0
    try clear hcz24_1
    try clear hcz24_2
    try clear hcz27_0
    try clear hcz27_1
    try clear hcz27_2
    try clear hfz15_0
    try clear hfz15_1
    try clear hfz15_2
    try clear hfz17_0
    try clear hfz17_1
    try clear hfz17_2
    try clear hfz19_0
    try clear hfz19_1
    try clear hfz19_2
    try clear hfz22_0
    try clear hfz22_1
    try clear hfz22_2
    try clear hfz24_0
    try clear hfz24_1
    try clear hfz24_2
    try clear hfz27_0
    try clear hfz27_1
    try clear hfz27_2
    obtain ⟨kq, x33_4, rfl, HA, HJ4, BK145, BK146, HB⟩ := hcut
    cases kq with
    | zero => exact absurd HA.out (by simp [impl_WalkTable.j0])
    | succ kj4 =>
      have H := HA.out
      clear HA
      simp only [impl_WalkTable.j0] at H
      by_cases c29 : x33_4 = true
      · subst c29
        have H1 : (some ([] : List Int)) = some r := by rw [if_pos rfl] at H; exact H
        clear H
        have H := H1
        clear H1
        obtain rfl := Option.some.inj H
        go_wp2
        go_ret
        exact ⟨_, by first | rfl | (simp [errW_none, errW_some] <;> rfl) | (simp [*, errW_none, errW_some] <;> rfl), by first | exact Kd.R_nil _ _ _ _ _ | exact Kd.N_nil _ _ _ _ _ | exact Kd.V_nil _ _ _ _ _ | exact Kd.Q_nil _ _ _ _ _ | exact Kd.S_nil _ _ _ _ _, by repeat (first | (with_reducible first | exact HB.out | apply below_alloc | apply pw_below_drewN | apply below_drew1 | refine below_set ?_ GE145.out | refine below_set ?_ GE146.out) | exact HB.out)⟩
      · replace c29 := Bool.eq_false_iff.mpr c29
        subst c29
        have H1 : (impl_WalkTable.l0 kj4 a3 (([] : List Int)) a2 a0_0 a0_1 l0_2 l1_0) = some r := by rw [if_neg (show ¬ (false = true) by decide)] at H; exact H
        clear H
        have H := H1
        clear H1
        obtain ⟨y150, hy150⟩ : ∃ y_ : List Int, y_ = (([] : List Int)) := ⟨_, rfl⟩
        replace H : (impl_WalkTable.l0 kj4 a3 y150 a2 a0_0 a0_1 l0_2 l1_0) = some r := by first | (rw [hy150]; with_reducible exact H) | (have H2_ := (Option.bind_some _ _).symm.trans H; rw [hy150]; with_reducible exact H2_) | (have H2_ := (Option.bind_some _ _).symm.trans H; with_reducible exact H2_) | with_reducible exact H | (rw [hy150]; exact H) | exact H
        have Ny150 := Aside0.mk hy150
        clear hy150
        have H' := Aside0.mk H
        clear H
        go_wp2_with (first | ((with_reducible refine gate_dst (N := 34) rfl ?_); (try (refine gate_guard (by rfl) ?_; dsimp only)); refine Kd.R_lit (Kd.int .i64) _ 3 ?hg (N := 34) ?hd (xs := ([] : List Int)) (inner := []) (ok := fun _ => True) (okp := fun _ => True) ?hr ?hp (fun _ hk => hk) trivial (Below.refl _ _) (Nat.le_refl _) (by simp) ?_; (case hd => rfl); (case hg => rfl); (case hr => first | (go_simp; done) | (go_simp; rfl)); (case hp => exact (Reps.none _ _)); intro v151 w30 ho31 hb hg_ hnew_; clear hg_ hnew_; (first | rw [← Ny150.out] at ho31 | (simp only [Int.reduceToNat] at ho31; rw [← Ny150.out] at ho31)); have n0_ := Aside0.mk (Kd.R_lower ho31 (below_size (by repeat (first | (with_reducible first | exact HB.out | apply below_alloc | apply pw_below_drewN | apply below_drew1 | refine below_set ?_ GE145.out | refine below_set ?_ GE146.out) | exact HB.out)))); have n1_ := Aside0.mk (blk_below (g := gb145) (o := .cells #[.int .i64 a0_0, .int .i64 a0_1, .slice A0_2 l0_2.length c0_2] 34 (0, 0)) (by (with_reducible repeat (first | refine blk_drewN ?_ _ | refine blk_drew ?_ | refine blk_alloc ?_ _)); exact BK145.out) hb); have n2_ := Aside0.mk (blk_below (g := gb146) (o := .cells #[.slice A1_0 l1_0.length c1_0] 36 (0, 0)) (by (with_reducible repeat (first | refine blk_drewN ?_ _ | refine blk_drew ?_ | refine blk_alloc ?_ _)); exact BK146.out) hb); have n3_ := Aside0.mk (below_step (by repeat (first | (with_reducible first | exact HB.out | apply below_alloc | apply pw_below_drewN | apply below_drew1 | refine below_set ?_ GE145.out | refine below_set ?_ GE146.out) | exact HB.out)) hb); clear BK145; clear BK146; clear HB; have HO152 := n0_; have BK145 := n1_; have BK146 := n2_; have HB := n3_; clear n0_ n1_ n2_ n3_; clear hb ho31))
        go_loopg [9, 10] kj4 (fun kq v9 v10 w' => ∃ (x9_2 : List Int) (x10_2 : Int), v10 = .int .i64 x10_2 ∧ Aside0 (impl_WalkTable.l0 kq a3 x9_2 x10_2 a0_0 a0_1 l0_2 l1_0 = some r) ∧ Aside0 (kq ≤ kj4) ∧ Aside0 (Kd.R (Kd.int .i64) 3 w' w.heap.size (fun _ => True) v9 x9_2) ∧ Aside0 (w'.heap[gb145]? = some (.cells #[.int .i64 a0_0, .int .i64 a0_1, (.slice A0_2 l0_2.length c0_2)] 34 (0, 0))) ∧ Aside0 (w'.heap[gb146]? = some (.cells #[(.slice A1_0 l1_0.length c1_0)] 36 (0, 0))) ∧ Aside0 (Below w.heap.size w w'))
        case atStart => exact ⟨(y150), (a2), (by first | rfl | (simp; done) | (simp [*]; done)), H', ⟨Nat.le_refl _⟩, ⟨by (with_reducible repeat (first | apply Kd.R_alloc | apply Kd.R_drewN | apply Kd.R_drew)); exact HO152.out⟩, ⟨by (with_reducible repeat (first | refine blk_drewN ?_ _ | refine blk_drew ?_ | refine blk_alloc ?_ _)); exact BK145.out⟩, ⟨by (with_reducible repeat (first | refine blk_drewN ?_ _ | refine blk_drew ?_ | refine blk_alloc ?_ _)); exact BK146.out⟩, ⟨by repeat (first | (with_reducible first | exact HB.out | apply below_alloc | apply pw_below_drewN | apply below_drew1 | refine below_set ?_ GE145.out | refine below_set ?_ GE146.out) | exact HB.out)⟩⟩
        case round =>
          clear H'
          try clear c1
          try clear c2
          try clear p2
          try clear c5
          try clear c8
          try clear c8b0
          try clear c8b1
          try clear c10
          try clear c12
          try clear c14
          try clear c21
          try clear c26
          try clear c29
          try clear hcz15_0
          try clear hcz15_1
          try clear hcz15_2
          try clear hcz17_0
          try clear hcz17_1
          try clear hcz17_2
          try clear hcz19_0
          try clear hcz19_1
          try clear hcz19_2
          try clear hcz22_0
          try clear hcz22_1
          try clear hcz22_2
          try clear hcz24_0
          try clear hcz24_1
          try clear hcz24_2
          try clear hcz27_0
          try clear hcz27_1
          try clear hcz27_2
          try clear hfz15_0
          try clear hfz15_1
          try clear hfz15_2
          try clear hfz17_0
          try clear hfz17_1
          try clear hfz17_2
          try clear hfz19_0
          try clear hfz19_1
          try clear hfz19_2
          try clear hfz22_0
          try clear hfz22_1
          try clear hfz22_2
          try clear hfz24_0
          try clear hfz24_1
          try clear hfz24_2
          try clear hfz27_0
          try clear hfz27_1
          try clear hfz27_2
          try clear p2
          obtain ⟨x9_2, x10_2, rfl, HA, HK2, HO_9, BK145, BK146, HB⟩ := hrel
          cases gk with
          | zero => exact absurd HA.out (by simp [impl_WalkTable.l0])
          | succ k2 =>
            have H := HA.out
            clear HA
            simp only [impl_WalkTable.l0] at H
            replace H := Option.bind_eq_some_iff.mp H
            obtain ⟨t153, A320, H⟩ := H
            replace H : (if t153 < 0 then (some ([] : List Int)) else (if t153 = 4 then (if x10_2 = a3 then (some x9_2) else (some ([] : List Int))) else ((impl_HasChannel.f k2 a0_0 a0_1 l0_2 (wrap64 ((wrap64 (4 * x10_2)) + t153))).bind fun t154 => (if t154 = true then ((impl_NodeCount.f a0_0 a0_1).bind fun t155 => (if (x9_2.length : Int) = t155 then (some ([] : List Int)) else (if x9_2.length < 17592186044416 then ((impl_endOf.f a0_0 a0_1 l0_2 (wrap64 ((wrap64 (4 * x10_2)) + t153))).bind fun t159 => (impl_WalkTable.l0 k2 a3 (x9_2 ++ [wrap64 ((wrap64 (4 * x10_2)) + t153)]) t159 a0_0 a0_1 l0_2 l1_0)) else (none)))) else (some ([] : List Int)))))) = some r := H
            have A32 := Aside0.mk A320
            clear A320
            by_cases c33 : t153 < 0
            · rw [if_pos c33] at H
              have c33b0 : decide (t153 < 0) = true := decide_eq_true c33
              clear c33
              obtain rfl := Option.some.inj H
              have hnb34 := NB145_146.out
              have hnc34 := NB146_145.out
              have hcz35_0 : wr.cell? ⟨gb145, 0, none⟩ = some (.int .i64 a0_0) := (blk_cell BK145.out 0).trans rfl
              have hcz35_1 : wr.cell? ⟨gb145, 1, none⟩ = some (.int .i64 a0_1) := (blk_cell BK145.out 1).trans rfl
              have hcz35_2 : wr.cell? ⟨gb145, 2, none⟩ = some (.slice A0_2 l0_2.length c0_2) := (blk_cell BK145.out 2).trans rfl
              have hfz35_0 := blk_frozen BK145.out 0
              have hfz35_1 := blk_frozen BK145.out 1
              have hfz35_2 := blk_frozen BK145.out 2
              have hcz36_0 : wr.cell? ⟨gb146, 0, none⟩ = some (.slice A1_0 l1_0.length c1_0) := (blk_cell BK146.out 0).trans rfl
              have hfz36_0 := blk_frozen BK146.out 0
              go_wp2_with (first | ((with_reducible refine gate_callee (f := 109) rfl ?_); refine goesL_ (some 40) rfl rfl Try.func109 (by kernel_rfl) rfl #[.agg #[.int .i64 a0_0, .int .i64 a0_1, .slice A0_2 l0_2.length c0_2], .agg #[.slice A1_0 l1_0.length c1_0], .int .i64 x10_2, .int .i64 a3] rfl (by (try simp only [List.map_toArray, List.map_cons, List.map_nil]); first | done | rfl | (simp only [List.length_drop, List.length_take]; rfl)) ?_; (with_reducible refine (impl_PortAt.calls k2 a0_0 a0_1 _ _ l0_2 _ _ l1_0 x10_2 a3 t153 _ ?side1 ?side2 ?side3 ?side4 A32.out).mono ?_); (case side1 => repeat (first | exact (Kd.C_below HR0_2.out HB.out) | (with_reducible refine Kd.C_alloc ?_ _) | (with_reducible refine Kd.C_drewN ?_ _) | (with_reducible refine Kd.C_drew ?_))); (case side2 => exact HC0_2.out); (case side3 => repeat (first | exact (Kd.C_below HR1_0.out HB.out) | (with_reducible refine Kd.C_alloc ?_ _) | (with_reducible refine Kd.C_drewN ?_ _) | (with_reducible refine Kd.C_drew ?_))); (case side4 => exact HC1_0.out); rintro e w37 ⟨rfl, hb⟩; refine ⟨_, rfl, ?_⟩; have n0_ := Aside0.mk (Kd.R_below (by (with_reducible repeat (first | apply Kd.R_alloc | apply Kd.R_drewN | apply Kd.R_drew)); exact HO_9.out) hb); have n1_ := Aside0.mk (blk_below (g := gb145) (o := .cells #[.int .i64 a0_0, .int .i64 a0_1, .slice A0_2 l0_2.length c0_2] 34 (0, 0)) (by (with_reducible repeat (first | refine blk_drewN ?_ _ | refine blk_drew ?_ | refine blk_alloc ?_ _)); exact BK145.out) hb); have n2_ := Aside0.mk (blk_below (g := gb146) (o := .cells #[.slice A1_0 l1_0.length c1_0] 36 (0, 0)) (by (with_reducible repeat (first | refine blk_drewN ?_ _ | refine blk_drew ?_ | refine blk_alloc ?_ _)); exact BK146.out) hb); have n3_ := Aside0.mk (below_step (by repeat (first | (with_reducible first | exact HB.out | apply below_alloc | apply pw_below_drewN | apply below_drew1 | refine below_set ?_ GE145.out | refine below_set ?_ GE146.out) | exact HB.out)) hb); clear HO_9; clear BK145; clear BK146; clear HB; have HO_9 := n0_; have BK145 := n1_; have BK146 := n2_; have HB := n3_; clear n0_ n1_ n2_ n3_; (try clear hb); (try clear hb2); (try clear hk); (try clear hi)))
              go_ret
              exact ⟨_, by first | rfl | (simp [errW_none, errW_some] <;> rfl) | (simp [*, errW_none, errW_some] <;> rfl), by first | exact Kd.R_nil _ _ _ _ _ | exact Kd.N_nil _ _ _ _ _ | exact Kd.V_nil _ _ _ _ _ | exact Kd.Q_nil _ _ _ _ _ | exact Kd.S_nil _ _ _ _ _, by repeat (first | (with_reducible first | exact HB.out | apply below_alloc | apply pw_below_drewN | apply below_drew1 | refine below_set ?_ GE145.out | refine below_set ?_ GE146.out) | exact HB.out)⟩
            · rw [if_neg c33] at H
              have c33b0 : decide (t153 < 0) = false := decide_eq_false c33
              clear c33
              by_cases c38 : t153 = 4
              · rw [if_pos c38] at H
                have c38b0 : (t153 == 4) = true := beq_iff_eq.mpr c38
                have c38b1 : (t153 != 4) = false := bne_eq_false_iff_eq.mpr c38
                clear c38
                by_cases c39 : x10_2 = a3
                · rw [if_pos c39] at H
                  have c39b0 : (x10_2 == a3) = true := beq_iff_eq.mpr c39
                  have c39b1 : (x10_2 != a3) = false := bne_eq_false_iff_eq.mpr c39
                  clear c39
                  obtain rfl := Option.some.inj H
                  have hnb40 := NB145_146.out
                  have hnc40 := NB146_145.out
                  have hcz41_0 : wr.cell? ⟨gb145, 0, none⟩ = some (.int .i64 a0_0) := (blk_cell BK145.out 0).trans rfl
                  have hcz41_1 : wr.cell? ⟨gb145, 1, none⟩ = some (.int .i64 a0_1) := (blk_cell BK145.out 1).trans rfl
                  have hcz41_2 : wr.cell? ⟨gb145, 2, none⟩ = some (.slice A0_2 l0_2.length c0_2) := (blk_cell BK145.out 2).trans rfl
                  have hfz41_0 := blk_frozen BK145.out 0
                  have hfz41_1 := blk_frozen BK145.out 1
                  have hfz41_2 := blk_frozen BK145.out 2
                  have hcz42_0 : wr.cell? ⟨gb146, 0, none⟩ = some (.slice A1_0 l1_0.length c1_0) := (blk_cell BK146.out 0).trans rfl
                  have hfz42_0 := blk_frozen BK146.out 0
                  go_wp2_with (first | ((with_reducible refine gate_callee (f := 109) rfl ?_); refine goesL_ (some 40) rfl rfl Try.func109 (by kernel_rfl) rfl #[.agg #[.int .i64 a0_0, .int .i64 a0_1, .slice A0_2 l0_2.length c0_2], .agg #[.slice A1_0 l1_0.length c1_0], .int .i64 x10_2, .int .i64 a3] rfl (by (try simp only [List.map_toArray, List.map_cons, List.map_nil]); first | done | rfl | (simp only [List.length_drop, List.length_take]; rfl)) ?_; (with_reducible refine (impl_PortAt.calls k2 a0_0 a0_1 _ _ l0_2 _ _ l1_0 x10_2 a3 t153 _ ?side1 ?side2 ?side3 ?side4 A32.out).mono ?_); (case side1 => repeat (first | exact (Kd.C_below HR0_2.out HB.out) | (with_reducible refine Kd.C_alloc ?_ _) | (with_reducible refine Kd.C_drewN ?_ _) | (with_reducible refine Kd.C_drew ?_))); (case side2 => exact HC0_2.out); (case side3 => repeat (first | exact (Kd.C_below HR1_0.out HB.out) | (with_reducible refine Kd.C_alloc ?_ _) | (with_reducible refine Kd.C_drewN ?_ _) | (with_reducible refine Kd.C_drew ?_))); (case side4 => exact HC1_0.out); rintro e w43 ⟨rfl, hb⟩; refine ⟨_, rfl, ?_⟩; have n0_ := Aside0.mk (Kd.R_below (by (with_reducible repeat (first | apply Kd.R_alloc | apply Kd.R_drewN | apply Kd.R_drew)); exact HO_9.out) hb); have n1_ := Aside0.mk (blk_below (g := gb145) (o := .cells #[.int .i64 a0_0, .int .i64 a0_1, .slice A0_2 l0_2.length c0_2] 34 (0, 0)) (by (with_reducible repeat (first | refine blk_drewN ?_ _ | refine blk_drew ?_ | refine blk_alloc ?_ _)); exact BK145.out) hb); have n2_ := Aside0.mk (blk_below (g := gb146) (o := .cells #[.slice A1_0 l1_0.length c1_0] 36 (0, 0)) (by (with_reducible repeat (first | refine blk_drewN ?_ _ | refine blk_drew ?_ | refine blk_alloc ?_ _)); exact BK146.out) hb); have n3_ := Aside0.mk (below_step (by repeat (first | (with_reducible first | exact HB.out | apply below_alloc | apply pw_below_drewN | apply below_drew1 | refine below_set ?_ GE145.out | refine below_set ?_ GE146.out) | exact HB.out)) hb); clear HO_9; clear BK145; clear BK146; clear HB; have HO_9 := n0_; have BK145 := n1_; have BK146 := n2_; have HB := n3_; clear n0_ n1_ n2_ n3_; (try clear hb); (try clear hb2); (try clear hk); (try clear hi)))
                  go_ret
                  exact ⟨_, by first | rfl | (simp [errW_none, errW_some] <;> rfl) | (simp [*, errW_none, errW_some] <;> rfl), by (with_reducible repeat (first | apply Kd.R_alloc | apply Kd.R_drewN | apply Kd.R_drew)); exact HO_9.out, by repeat (first | (with_reducible first | exact HB.out | apply below_alloc | apply pw_below_drewN | apply below_drew1 | refine below_set ?_ GE145.out | refine below_set ?_ GE146.out) | exact HB.out)⟩
                · rw [if_neg c39] at H
                  have c39b0 : (x10_2 == a3) = false := beq_eq_false_iff_ne.mpr c39
                  have c39b1 : (x10_2 != a3) = true := bne_iff_ne.mpr c39
                  obtain rfl := Option.some.inj H
                  have hnb44 := NB145_146.out
                  have hnc44 := NB146_145.out
                  have hcz45_0 : wr.cell? ⟨gb145, 0, none⟩ = some (.int .i64 a0_0) := (blk_cell BK145.out 0).trans rfl
                  have hcz45_1 : wr.cell? ⟨gb145, 1, none⟩ = some (.int .i64 a0_1) := (blk_cell BK145.out 1).trans rfl
                  have hcz45_2 : wr.cell? ⟨gb145, 2, none⟩ = some (.slice A0_2 l0_2.length c0_2) := (blk_cell BK145.out 2).trans rfl
                  have hfz45_0 := blk_frozen BK145.out 0
                  have hfz45_1 := blk_frozen BK145.out 1
                  have hfz45_2 := blk_frozen BK145.out 2
                  have hcz46_0 : wr.cell? ⟨gb146, 0, none⟩ = some (.slice A1_0 l1_0.length c1_0) := (blk_cell BK146.out 0).trans rfl
                  have hfz46_0 := blk_frozen BK146.out 0
                  go_wp2_with (first | ((with_reducible refine gate_callee (f := 109) rfl ?_); refine goesL_ (some 40) rfl rfl Try.func109 (by kernel_rfl) rfl #[.agg #[.int .i64 a0_0, .int .i64 a0_1, .slice A0_2 l0_2.length c0_2], .agg #[.slice A1_0 l1_0.length c1_0], .int .i64 x10_2, .int .i64 a3] rfl (by (try simp only [List.map_toArray, List.map_cons, List.map_nil]); first | done | rfl | (simp only [List.length_drop, List.length_take]; rfl)) ?_; (with_reducible refine (impl_PortAt.calls k2 a0_0 a0_1 _ _ l0_2 _ _ l1_0 x10_2 a3 t153 _ ?side1 ?side2 ?side3 ?side4 A32.out).mono ?_); (case side1 => repeat (first | exact (Kd.C_below HR0_2.out HB.out) | (with_reducible refine Kd.C_alloc ?_ _) | (with_reducible refine Kd.C_drewN ?_ _) | (with_reducible refine Kd.C_drew ?_))); (case side2 => exact HC0_2.out); (case side3 => repeat (first | exact (Kd.C_below HR1_0.out HB.out) | (with_reducible refine Kd.C_alloc ?_ _) | (with_reducible refine Kd.C_drewN ?_ _) | (with_reducible refine Kd.C_drew ?_))); (case side4 => exact HC1_0.out); rintro e w47 ⟨rfl, hb⟩; refine ⟨_, rfl, ?_⟩; have n0_ := Aside0.mk (Kd.R_below (by (with_reducible repeat (first | apply Kd.R_alloc | apply Kd.R_drewN | apply Kd.R_drew)); exact HO_9.out) hb); have n1_ := Aside0.mk (blk_below (g := gb145) (o := .cells #[.int .i64 a0_0, .int .i64 a0_1, .slice A0_2 l0_2.length c0_2] 34 (0, 0)) (by (with_reducible repeat (first | refine blk_drewN ?_ _ | refine blk_drew ?_ | refine blk_alloc ?_ _)); exact BK145.out) hb); have n2_ := Aside0.mk (blk_below (g := gb146) (o := .cells #[.slice A1_0 l1_0.length c1_0] 36 (0, 0)) (by (with_reducible repeat (first | refine blk_drewN ?_ _ | refine blk_drew ?_ | refine blk_alloc ?_ _)); exact BK146.out) hb); have n3_ := Aside0.mk (below_step (by repeat (first | (with_reducible first | exact HB.out | apply below_alloc | apply pw_below_drewN | apply below_drew1 | refine below_set ?_ GE145.out | refine below_set ?_ GE146.out) | exact HB.out)) hb); clear HO_9; clear BK145; clear BK146; clear HB; have HO_9 := n0_; have BK145 := n1_; have BK146 := n2_; have HB := n3_; clear n0_ n1_ n2_ n3_; (try clear hb); (try clear hb2); (try clear hk); (try clear hi)))
                  go_ret
                  exact ⟨_, by first | rfl | (simp [errW_none, errW_some] <;> rfl) | (simp [*, errW_none, errW_some] <;> rfl), by first | exact Kd.R_nil _ _ _ _ _ | exact Kd.N_nil _ _ _ _ _ | exact Kd.V_nil _ _ _ _ _ | exact Kd.Q_nil _ _ _ _ _ | exact Kd.S_nil _ _ _ _ _, by repeat (first | (with_reducible first | exact HB.out | apply below_alloc | apply pw_below_drewN | apply below_drew1 | refine below_set ?_ GE145.out | refine below_set ?_ GE146.out) | exact HB.out)⟩
              · rw [if_neg c38] at H
                have c38b0 : (t153 == 4) = false := beq_eq_false_iff_ne.mpr c38
                have c38b1 : (t153 != 4) = true := bne_iff_ne.mpr c38
                replace H := Option.bind_eq_some_iff.mp H
                obtain ⟨t154, A480, H⟩ := H
                replace H : (if t154 = true then ((impl_NodeCount.f a0_0 a0_1).bind fun t155 => (if (x9_2.length : Int) = t155 then (some ([] : List Int)) else (if x9_2.length < 17592186044416 then ((impl_endOf.f a0_0 a0_1 l0_2 (wrap64 ((wrap64 (4 * x10_2)) + t153))).bind fun t159 => (impl_WalkTable.l0 k2 a3 (x9_2 ++ [wrap64 ((wrap64 (4 * x10_2)) + t153)]) t159 a0_0 a0_1 l0_2 l1_0)) else (none)))) else (some ([] : List Int))) = some r := H
                have A48 := Aside0.mk A480
                clear A480
                by_cases c49 : t154 = true
                · subst c49
                  have H1 : ((impl_NodeCount.f a0_0 a0_1).bind fun t155 => (if (x9_2.length : Int) = t155 then (some ([] : List Int)) else (if x9_2.length < 17592186044416 then ((impl_endOf.f a0_0 a0_1 l0_2 (wrap64 ((wrap64 (4 * x10_2)) + t153))).bind fun t159 => (impl_WalkTable.l0 k2 a3 (x9_2 ++ [wrap64 ((wrap64 (4 * x10_2)) + t153)]) t159 a0_0 a0_1 l0_2 l1_0)) else (none)))) = some r := by rw [if_pos rfl] at H; exact H
                  clear H
                  have H := H1
                  clear H1
                  replace H := Option.bind_eq_some_iff.mp H
                  obtain ⟨t155, A500, H⟩ := H
                  replace H : (if (x9_2.length : Int) = t155 then (some ([] : List Int)) else (if x9_2.length < 17592186044416 then ((impl_endOf.f a0_0 a0_1 l0_2 (wrap64 ((wrap64 (4 * x10_2)) + t153))).bind fun t159 => (impl_WalkTable.l0 k2 a3 (x9_2 ++ [wrap64 ((wrap64 (4 * x10_2)) + t153)]) t159 a0_0 a0_1 l0_2 l1_0)) else (none))) = some r := H
                  have A50 := Aside0.mk A500
                  clear A500
                  by_cases c51 : (x9_2.length : Int) = t155
                  · rw [if_pos c51] at H
                    have c51b0 : ((x9_2.length : Int) == t155) = true := beq_iff_eq.mpr c51
                    have c51b1 : ((x9_2.length : Int) != t155) = false := bne_eq_false_iff_eq.mpr c51
                    clear c51
                    obtain rfl := Option.some.inj H
                    have hnb52 := NB145_146.out
                    have hnc52 := NB146_145.out
                    have hcz53_0 : wr.cell? ⟨gb145, 0, none⟩ = some (.int .i64 a0_0) := (blk_cell BK145.out 0).trans rfl
                    have hcz53_1 : wr.cell? ⟨gb145, 1, none⟩ = some (.int .i64 a0_1) := (blk_cell BK145.out 1).trans rfl
                    have hcz53_2 : wr.cell? ⟨gb145, 2, none⟩ = some (.slice A0_2 l0_2.length c0_2) := (blk_cell BK145.out 2).trans rfl
                    have hfz53_0 := blk_frozen BK145.out 0
                    have hfz53_1 := blk_frozen BK145.out 1
                    have hfz53_2 := blk_frozen BK145.out 2
                    have hcz54_0 : wr.cell? ⟨gb146, 0, none⟩ = some (.slice A1_0 l1_0.length c1_0) := (blk_cell BK146.out 0).trans rfl
                    have hfz54_0 := blk_frozen BK146.out 0
                    go_wp2_with (first | ((with_reducible refine gate_callee (f := 109) rfl ?_); refine goesL_ (some 40) rfl rfl Try.func109 (by kernel_rfl) rfl #[.agg #[.int .i64 a0_0, .int .i64 a0_1, .slice A0_2 l0_2.length c0_2], .agg #[.slice A1_0 l1_0.length c1_0], .int .i64 x10_2, .int .i64 a3] rfl (by (try simp only [List.map_toArray, List.map_cons, List.map_nil]); first | done | rfl | (simp only [List.length_drop, List.length_take]; rfl)) ?_; (with_reducible refine (impl_PortAt.calls k2 a0_0 a0_1 _ _ l0_2 _ _ l1_0 x10_2 a3 t153 _ ?side1 ?side2 ?side3 ?side4 A32.out).mono ?_); (case side1 => repeat (first | exact (Kd.C_below HR0_2.out HB.out) | (with_reducible refine Kd.C_alloc ?_ _) | (with_reducible refine Kd.C_drewN ?_ _) | (with_reducible refine Kd.C_drew ?_))); (case side2 => exact HC0_2.out); (case side3 => repeat (first | exact (Kd.C_below HR1_0.out HB.out) | (with_reducible refine Kd.C_alloc ?_ _) | (with_reducible refine Kd.C_drewN ?_ _) | (with_reducible refine Kd.C_drew ?_))); (case side4 => exact HC1_0.out); rintro e w55 ⟨rfl, hb⟩; refine ⟨_, rfl, ?_⟩; have n0_ := Aside0.mk (Kd.R_below (by (with_reducible repeat (first | apply Kd.R_alloc | apply Kd.R_drewN | apply Kd.R_drew)); exact HO_9.out) hb); have n1_ := Aside0.mk (blk_below (g := gb145) (o := .cells #[.int .i64 a0_0, .int .i64 a0_1, .slice A0_2 l0_2.length c0_2] 34 (0, 0)) (by (with_reducible repeat (first | refine blk_drewN ?_ _ | refine blk_drew ?_ | refine blk_alloc ?_ _)); exact BK145.out) hb); have n2_ := Aside0.mk (blk_below (g := gb146) (o := .cells #[.slice A1_0 l1_0.length c1_0] 36 (0, 0)) (by (with_reducible repeat (first | refine blk_drewN ?_ _ | refine blk_drew ?_ | refine blk_alloc ?_ _)); exact BK146.out) hb); have n3_ := Aside0.mk (below_step (by repeat (first | (with_reducible first | exact HB.out | apply below_alloc | apply pw_below_drewN | apply below_drew1 | refine below_set ?_ GE145.out | refine below_set ?_ GE146.out) | exact HB.out)) hb); clear HO_9; clear BK145; clear BK146; clear HB; have HO_9 := n0_; have BK145 := n1_; have BK146 := n2_; have HB := n3_; clear n0_ n1_ n2_ n3_; (try clear hb); (try clear hb2); (try clear hk); (try clear hi); have hcz56_0 : w55.cell? ⟨gb145, 0, none⟩ = some (.int .i64 a0_0) := (blk_cell BK145.out 0).trans rfl; have hcz56_1 : w55.cell? ⟨gb145, 1, none⟩ = some (.int .i64 a0_1) := (blk_cell BK145.out 1).trans rfl; have hcz56_2 : w55.cell? ⟨gb145, 2, none⟩ = some (.slice A0_2 l0_2.length c0_2) := (blk_cell BK145.out 2).trans rfl; have hfz56_0 := blk_frozen BK145.out 0; have hfz56_1 := blk_frozen BK145.out 1; have hfz56_2 := blk_frozen BK145.out 2) | ((with_reducible refine gate_callee (f := 110) rfl ?_); refine goesL_ (some 57) rfl rfl Try.func110 (by kernel_rfl) rfl #[.agg #[.int .i64 a0_0, .int .i64 a0_1, .slice A0_2 l0_2.length c0_2], .int .i64 (wrap64 ((wrap64 (4 * x10_2)) + t153))] rfl (by (try simp only [List.map_toArray, List.map_cons, List.map_nil]); first | done | rfl | (simp only [List.length_drop, List.length_take]; rfl)) ?_; (with_reducible refine (impl_HasChannel.calls k2 a0_0 a0_1 _ _ l0_2 (wrap64 ((wrap64 (4 * x10_2)) + t153)) true _ ?side1 ?side2 A48.out).mono ?_); (case side1 => repeat (first | exact (Kd.C_below HR0_2.out HB.out) | (with_reducible refine Kd.C_alloc ?_ _) | (with_reducible refine Kd.C_drewN ?_ _) | (with_reducible refine Kd.C_drew ?_))); (case side2 => exact HC0_2.out); rintro e w57 ⟨rfl, hb⟩; refine ⟨_, rfl, ?_⟩; have n0_ := Aside0.mk (Kd.R_below (by (with_reducible repeat (first | apply Kd.R_alloc | apply Kd.R_drewN | apply Kd.R_drew)); exact HO_9.out) hb); have n1_ := Aside0.mk (blk_below (g := gb145) (o := .cells #[.int .i64 a0_0, .int .i64 a0_1, .slice A0_2 l0_2.length c0_2] 34 (0, 0)) (by (with_reducible repeat (first | refine blk_drewN ?_ _ | refine blk_drew ?_ | refine blk_alloc ?_ _)); exact BK145.out) hb); have n2_ := Aside0.mk (blk_below (g := gb146) (o := .cells #[.slice A1_0 l1_0.length c1_0] 36 (0, 0)) (by (with_reducible repeat (first | refine blk_drewN ?_ _ | refine blk_drew ?_ | refine blk_alloc ?_ _)); exact BK146.out) hb); have n3_ := Aside0.mk (below_step (by repeat (first | (with_reducible first | exact HB.out | apply below_alloc | apply pw_below_drewN | apply below_drew1 | refine below_set ?_ GE145.out | refine below_set ?_ GE146.out) | exact HB.out)) hb); clear HO_9; clear BK145; clear BK146; clear HB; have HO_9 := n0_; have BK145 := n1_; have BK146 := n2_; have HB := n3_; clear n0_ n1_ n2_ n3_; (try clear hb); (try clear hb2); (try clear hk); (try clear hi); obtain ⟨Ao58, co58, eo58⟩ := Kd.R_slice HO_9.out; subst eo58; have hcz59_0 : w57.cell? ⟨gb145, 0, none⟩ = some (.int .i64 a0_0) := (blk_cell BK145.out 0).trans rfl; have hcz59_1 : w57.cell? ⟨gb145, 1, none⟩ = some (.int .i64 a0_1) := (blk_cell BK145.out 1).trans rfl; have hcz59_2 : w57.cell? ⟨gb145, 2, none⟩ = some (.slice A0_2 l0_2.length c0_2) := (blk_cell BK145.out 2).trans rfl; have hfz59_0 := blk_frozen BK145.out 0; have hfz59_1 := blk_frozen BK145.out 1; have hfz59_2 := blk_frozen BK145.out 2) | (go_at_call 99; (with_reducible refine (impl_NodeCount.calls a0_0 a0_1 t155 _ A50.out).mono ?_); rintro e w60 ⟨rfl, hb⟩; have n0_ := Aside0.mk (Kd.R_below (by (with_reducible repeat (first | apply Kd.R_alloc | apply Kd.R_drewN | apply Kd.R_drew)); exact HO_9.out) hb); have n1_ := Aside0.mk (blk_below (g := gb145) (o := .cells #[.int .i64 a0_0, .int .i64 a0_1, .slice A0_2 l0_2.length c0_2] 34 (0, 0)) (by (with_reducible repeat (first | refine blk_drewN ?_ _ | refine blk_drew ?_ | refine blk_alloc ?_ _)); exact BK145.out) hb); have n2_ := Aside0.mk (blk_below (g := gb146) (o := .cells #[.slice A1_0 l1_0.length c1_0] 36 (0, 0)) (by (with_reducible repeat (first | refine blk_drewN ?_ _ | refine blk_drew ?_ | refine blk_alloc ?_ _)); exact BK146.out) hb); have n3_ := Aside0.mk (below_step (by repeat (first | (with_reducible first | exact HB.out | apply below_alloc | apply pw_below_drewN | apply below_drew1 | refine below_set ?_ GE145.out | refine below_set ?_ GE146.out) | exact HB.out)) hb); clear HO_9; clear BK145; clear BK146; clear HB; have HO_9 := n0_; have BK145 := n1_; have BK146 := n2_; have HB := n3_; clear n0_ n1_ n2_ n3_; (try clear hb); (try clear hb2); (try clear hk); (try clear hi)))
                    go_ret
                    exact ⟨_, by first | rfl | (simp [errW_none, errW_some] <;> rfl) | (simp [*, errW_none, errW_some] <;> rfl), by first | exact Kd.R_nil _ _ _ _ _ | exact Kd.N_nil _ _ _ _ _ | exact Kd.V_nil _ _ _ _ _ | exact Kd.Q_nil _ _ _ _ _ | exact Kd.S_nil _ _ _ _ _, by repeat (first | (with_reducible first | exact HB.out | apply below_alloc | apply pw_below_drewN | apply below_drew1 | refine below_set ?_ GE145.out | refine below_set ?_ GE146.out) | exact HB.out)⟩
                  · rw [if_neg c51] at H
                    have c51b0 : ((x9_2.length : Int) == t155) = false := beq_eq_false_iff_ne.mpr c51
                    have c51b1 : ((x9_2.length : Int) != t155) = true := bne_iff_ne.mpr c51
                    by_cases c61 : x9_2.length < 17592186044416
                    · rw [if_pos c61] at H
                      have LMc61 := Aside0.mk c61
                      clear c61
                      obtain ⟨y156, hy156⟩ : ∃ y_ : List Int, y_ = (x9_2 ++ [wrap64 ((wrap64 (4 * x10_2)) + t153)]) := ⟨_, rfl⟩
                      replace H : ((impl_endOf.f a0_0 a0_1 l0_2 (wrap64 ((wrap64 (4 * x10_2)) + t153))).bind fun t159 => (impl_WalkTable.l0 k2 a3 y156 t159 a0_0 a0_1 l0_2 l1_0)) = some r := by first | (rw [hy156]; with_reducible exact H) | (have H2_ := (Option.bind_some _ _).symm.trans H; rw [hy156]; with_reducible exact H2_) | (have H2_ := (Option.bind_some _ _).symm.trans H; with_reducible exact H2_) | with_reducible exact H | (rw [hy156]; exact H) | exact H
                      have Ny156 := Aside0.mk hy156
                      clear hy156
                      replace H := Option.bind_eq_some_iff.mp H
                      obtain ⟨t159, A620, H⟩ := H
                      replace H : (impl_WalkTable.l0 k2 a3 y156 t159 a0_0 a0_1 l0_2 l1_0) = some r := H
                      have A62 := Aside0.mk A620
                      clear A620
                      have H' := Aside0.mk H
                      clear H
                      have hnb63 := NB145_146.out
                      have hnc63 := NB146_145.out
                      have hcz64_0 : wr.cell? ⟨gb145, 0, none⟩ = some (.int .i64 a0_0) := (blk_cell BK145.out 0).trans rfl
                      have hcz64_1 : wr.cell? ⟨gb145, 1, none⟩ = some (.int .i64 a0_1) := (blk_cell BK145.out 1).trans rfl
                      have hcz64_2 : wr.cell? ⟨gb145, 2, none⟩ = some (.slice A0_2 l0_2.length c0_2) := (blk_cell BK145.out 2).trans rfl
                      have hfz64_0 := blk_frozen BK145.out 0
                      have hfz64_1 := blk_frozen BK145.out 1
                      have hfz64_2 := blk_frozen BK145.out 2
                      have hcz65_0 : wr.cell? ⟨gb146, 0, none⟩ = some (.slice A1_0 l1_0.length c1_0) := (blk_cell BK146.out 0).trans rfl
                      have hfz65_0 := blk_frozen BK146.out 0
                      go_wp2_with (first | ((with_reducible refine gate_callee (f := 109) rfl ?_); refine goesL_ (some 40) rfl rfl Try.func109 (by kernel_rfl) rfl #[.agg #[.int .i64 a0_0, .int .i64 a0_1, .slice A0_2 l0_2.length c0_2], .agg #[.slice A1_0 l1_0.length c1_0], .int .i64 x10_2, .int .i64 a3] rfl (by (try simp only [List.map_toArray, List.map_cons, List.map_nil]); first | done | rfl | (simp only [List.length_drop, List.length_take]; rfl)) ?_; (with_reducible refine (impl_PortAt.calls k2 a0_0 a0_1 _ _ l0_2 _ _ l1_0 x10_2 a3 t153 _ ?side1 ?side2 ?side3 ?side4 A32.out).mono ?_); (case side1 => repeat (first | exact (Kd.C_below HR0_2.out HB.out) | (with_reducible refine Kd.C_alloc ?_ _) | (with_reducible refine Kd.C_drewN ?_ _) | (with_reducible refine Kd.C_drew ?_))); (case side2 => exact HC0_2.out); (case side3 => repeat (first | exact (Kd.C_below HR1_0.out HB.out) | (with_reducible refine Kd.C_alloc ?_ _) | (with_reducible refine Kd.C_drewN ?_ _) | (with_reducible refine Kd.C_drew ?_))); (case side4 => exact HC1_0.out); rintro e w66 ⟨rfl, hb⟩; refine ⟨_, rfl, ?_⟩; have n0_ := Aside0.mk (Kd.R_below (by (with_reducible repeat (first | apply Kd.R_alloc | apply Kd.R_drewN | apply Kd.R_drew)); exact HO_9.out) hb); have n1_ := Aside0.mk (blk_below (g := gb145) (o := .cells #[.int .i64 a0_0, .int .i64 a0_1, .slice A0_2 l0_2.length c0_2] 34 (0, 0)) (by (with_reducible repeat (first | refine blk_drewN ?_ _ | refine blk_drew ?_ | refine blk_alloc ?_ _)); exact BK145.out) hb); have n2_ := Aside0.mk (blk_below (g := gb146) (o := .cells #[.slice A1_0 l1_0.length c1_0] 36 (0, 0)) (by (with_reducible repeat (first | refine blk_drewN ?_ _ | refine blk_drew ?_ | refine blk_alloc ?_ _)); exact BK146.out) hb); have n3_ := Aside0.mk (below_step (by repeat (first | (with_reducible first | exact HB.out | apply below_alloc | apply pw_below_drewN | apply below_drew1 | refine below_set ?_ GE145.out | refine below_set ?_ GE146.out) | exact HB.out)) hb); clear HO_9; clear BK145; clear BK146; clear HB; have HO_9 := n0_; have BK145 := n1_; have BK146 := n2_; have HB := n3_; clear n0_ n1_ n2_ n3_; (try clear hb); (try clear hb2); (try clear hk); (try clear hi); have hcz67_0 : w66.cell? ⟨gb145, 0, none⟩ = some (.int .i64 a0_0) := (blk_cell BK145.out 0).trans rfl; have hcz67_1 : w66.cell? ⟨gb145, 1, none⟩ = some (.int .i64 a0_1) := (blk_cell BK145.out 1).trans rfl; have hcz67_2 : w66.cell? ⟨gb145, 2, none⟩ = some (.slice A0_2 l0_2.length c0_2) := (blk_cell BK145.out 2).trans rfl; have hfz67_0 := blk_frozen BK145.out 0; have hfz67_1 := blk_frozen BK145.out 1; have hfz67_2 := blk_frozen BK145.out 2) | ((with_reducible refine gate_callee (f := 110) rfl ?_); refine goesL_ (some 57) rfl rfl Try.func110 (by kernel_rfl) rfl #[.agg #[.int .i64 a0_0, .int .i64 a0_1, .slice A0_2 l0_2.length c0_2], .int .i64 (wrap64 ((wrap64 (4 * x10_2)) + t153))] rfl (by (try simp only [List.map_toArray, List.map_cons, List.map_nil]); first | done | rfl | (simp only [List.length_drop, List.length_take]; rfl)) ?_; (with_reducible refine (impl_HasChannel.calls k2 a0_0 a0_1 _ _ l0_2 (wrap64 ((wrap64 (4 * x10_2)) + t153)) true _ ?side1 ?side2 A48.out).mono ?_); (case side1 => repeat (first | exact (Kd.C_below HR0_2.out HB.out) | (with_reducible refine Kd.C_alloc ?_ _) | (with_reducible refine Kd.C_drewN ?_ _) | (with_reducible refine Kd.C_drew ?_))); (case side2 => exact HC0_2.out); rintro e w68 ⟨rfl, hb⟩; refine ⟨_, rfl, ?_⟩; have n0_ := Aside0.mk (Kd.R_below (by (with_reducible repeat (first | apply Kd.R_alloc | apply Kd.R_drewN | apply Kd.R_drew)); exact HO_9.out) hb); have n1_ := Aside0.mk (blk_below (g := gb145) (o := .cells #[.int .i64 a0_0, .int .i64 a0_1, .slice A0_2 l0_2.length c0_2] 34 (0, 0)) (by (with_reducible repeat (first | refine blk_drewN ?_ _ | refine blk_drew ?_ | refine blk_alloc ?_ _)); exact BK145.out) hb); have n2_ := Aside0.mk (blk_below (g := gb146) (o := .cells #[.slice A1_0 l1_0.length c1_0] 36 (0, 0)) (by (with_reducible repeat (first | refine blk_drewN ?_ _ | refine blk_drew ?_ | refine blk_alloc ?_ _)); exact BK146.out) hb); have n3_ := Aside0.mk (below_step (by repeat (first | (with_reducible first | exact HB.out | apply below_alloc | apply pw_below_drewN | apply below_drew1 | refine below_set ?_ GE145.out | refine below_set ?_ GE146.out) | exact HB.out)) hb); clear HO_9; clear BK145; clear BK146; clear HB; have HO_9 := n0_; have BK145 := n1_; have BK146 := n2_; have HB := n3_; clear n0_ n1_ n2_ n3_; (try clear hb); (try clear hb2); (try clear hk); (try clear hi); obtain ⟨Ao69, co69, eo69⟩ := Kd.R_slice HO_9.out; subst eo69; have hcz70_0 : w68.cell? ⟨gb145, 0, none⟩ = some (.int .i64 a0_0) := (blk_cell BK145.out 0).trans rfl; have hcz70_1 : w68.cell? ⟨gb145, 1, none⟩ = some (.int .i64 a0_1) := (blk_cell BK145.out 1).trans rfl; have hcz70_2 : w68.cell? ⟨gb145, 2, none⟩ = some (.slice A0_2 l0_2.length c0_2) := (blk_cell BK145.out 2).trans rfl; have hfz70_0 := blk_frozen BK145.out 0; have hfz70_1 := blk_frozen BK145.out 1; have hfz70_2 := blk_frozen BK145.out 2) | (go_at_call 99; (with_reducible refine (impl_NodeCount.calls a0_0 a0_1 t155 _ A50.out).mono ?_); rintro e w71 ⟨rfl, hb⟩; have n0_ := Aside0.mk (Kd.R_below (by (with_reducible repeat (first | apply Kd.R_alloc | apply Kd.R_drewN | apply Kd.R_drew)); exact HO_9.out) hb); have n1_ := Aside0.mk (blk_below (g := gb145) (o := .cells #[.int .i64 a0_0, .int .i64 a0_1, .slice A0_2 l0_2.length c0_2] 34 (0, 0)) (by (with_reducible repeat (first | refine blk_drewN ?_ _ | refine blk_drew ?_ | refine blk_alloc ?_ _)); exact BK145.out) hb); have n2_ := Aside0.mk (blk_below (g := gb146) (o := .cells #[.slice A1_0 l1_0.length c1_0] 36 (0, 0)) (by (with_reducible repeat (first | refine blk_drewN ?_ _ | refine blk_drew ?_ | refine blk_alloc ?_ _)); exact BK146.out) hb); have n3_ := Aside0.mk (below_step (by repeat (first | (with_reducible first | exact HB.out | apply below_alloc | apply pw_below_drewN | apply below_drew1 | refine below_set ?_ GE145.out | refine below_set ?_ GE146.out) | exact HB.out)) hb); clear HO_9; clear BK145; clear BK146; clear HB; have HO_9 := n0_; have BK145 := n1_; have BK146 := n2_; have HB := n3_; clear n0_ n1_ n2_ n3_; (try clear hb); (try clear hb2); (try clear hk); (try clear hi)) | ((with_reducible refine gate_builtin (b := .append) (xs := #[.tmp 67, .tmp 72]) rfl ?_); (try (refine gate_guard (by rfl) ?_; dsimp only)); at_builtin; refine Kd.R_append (Kd.int .i64) (w0 := w) w.heap.size rfl (.tmp 67) (.tmp 72) 24 3 (.int .i64 0) 8 rfl Try.underlying24 info3 rfl (by decide) (by omega) (.slice Ao69 x9_2.length co69) x9_2 (wrap64 ((wrap64 (4 * x10_2)) + t153)) [.int .i64 (wrap64 ((wrap64 (4 * x10_2)) + t153))] (fun _ => True) (fun _ => False) rfl rfl ?aP (fun _ hk => hk.elim) ?aF ?aO ?aB ?aS ?aL ?_; (case aP => exact rfl); (case aB => exact (by repeat (first | (with_reducible first | exact HB.out | apply below_alloc | apply pw_below_drewN | apply below_drew1 | refine below_set ?_ GE145.out | refine below_set ?_ GE146.out) | exact HB.out))); (case aF => exact (fun _ _ => trivial)); (case aO => exact (by (with_reducible repeat (first | apply Kd.R_alloc | apply Kd.R_drewN | apply Kd.R_drew)); exact HO_9.out)); (case aS => exact (below_size (by repeat (first | (with_reducible first | exact HB.out | apply below_alloc | apply pw_below_drewN | apply below_drew1 | refine below_set ?_ GE145.out | refine below_set ?_ GE146.out) | exact HB.out)))); (case aL => have := LMc61.out; omega); intro v157 w72 ho hb hg hat; rw [← Ny156.out] at ho; have n0_ := Aside0.mk (blk_grown (g := gb145) (o := .cells #[.int .i64 a0_0, .int .i64 a0_1, .slice A0_2 l0_2.length c0_2] 34 (0, 0)) (by (with_reducible repeat (first | refine blk_drewN ?_ _ | refine blk_drew ?_ | refine blk_alloc ?_ _)); exact BK145.out) hg (Kd.R_ne HO_9.out BK145.out (by decide))); have n1_ := Aside0.mk (blk_grown (g := gb146) (o := .cells #[.slice A1_0 l1_0.length c1_0] 36 (0, 0)) (by (with_reducible repeat (first | refine blk_drewN ?_ _ | refine blk_drew ?_ | refine blk_alloc ?_ _)); exact BK146.out) hg (Kd.R_ne HO_9.out BK146.out (by decide))); have n2_ := Aside0.mk (hb); have n3_ := Aside0.mk (ho); clear BK145; clear BK146; clear HB; clear HO_9; have BK145 := n0_; have BK146 := n1_; have HB := n2_; have HO158 := n3_; clear n0_ n1_ n2_ n3_; clear ho hb hg hat; have hcz73_0 : w72.cell? ⟨gb145, 0, none⟩ = some (.int .i64 a0_0) := (blk_cell BK145.out 0).trans rfl; have hcz73_1 : w72.cell? ⟨gb145, 1, none⟩ = some (.int .i64 a0_1) := (blk_cell BK145.out 1).trans rfl; have hcz73_2 : w72.cell? ⟨gb145, 2, none⟩ = some (.slice A0_2 l0_2.length c0_2) := (blk_cell BK145.out 2).trans rfl; have hfz73_0 := blk_frozen BK145.out 0; have hfz73_1 := blk_frozen BK145.out 1; have hfz73_2 := blk_frozen BK145.out 2) | ((with_reducible refine gate_callee (f := 111) rfl ?_); refine goesL_ (some 79) rfl rfl Try.func111 (by kernel_rfl) rfl #[.agg #[.int .i64 a0_0, .int .i64 a0_1, .slice A0_2 l0_2.length c0_2], .int .i64 (wrap64 ((wrap64 (4 * x10_2)) + t153))] rfl (by (try simp only [List.map_toArray, List.map_cons, List.map_nil]); first | done | rfl | (simp only [List.length_drop, List.length_take]; rfl)) ?_; (with_reducible refine (impl_endOf.calls a0_0 a0_1 _ _ l0_2 (wrap64 ((wrap64 (4 * x10_2)) + t153)) t159 _ ?side1 ?side2 A62.out).mono ?_); (case side1 => repeat (first | exact (Kd.C_below HR0_2.out HB.out) | (with_reducible refine Kd.C_alloc ?_ _) | (with_reducible refine Kd.C_drewN ?_ _) | (with_reducible refine Kd.C_drew ?_))); (case side2 => exact HC0_2.out); rintro e w74 ⟨rfl, hb⟩; refine ⟨_, rfl, ?_⟩; have n0_ := Aside0.mk (Kd.R_below (by (with_reducible repeat (first | apply Kd.R_alloc | apply Kd.R_drewN | apply Kd.R_drew)); exact HO158.out) hb); have n1_ := Aside0.mk (blk_below (g := gb145) (o := .cells #[.int .i64 a0_0, .int .i64 a0_1, .slice A0_2 l0_2.length c0_2] 34 (0, 0)) (by (with_reducible repeat (first | refine blk_drewN ?_ _ | refine blk_drew ?_ | refine blk_alloc ?_ _)); exact BK145.out) hb); have n2_ := Aside0.mk (blk_below (g := gb146) (o := .cells #[.slice A1_0 l1_0.length c1_0] 36 (0, 0)) (by (with_reducible repeat (first | refine blk_drewN ?_ _ | refine blk_drew ?_ | refine blk_alloc ?_ _)); exact BK146.out) hb); have n3_ := Aside0.mk (below_step (by repeat (first | (with_reducible first | exact HB.out | apply below_alloc | apply pw_below_drewN | apply below_drew1 | refine below_set ?_ GE145.out | refine below_set ?_ GE146.out) | exact HB.out)) hb); clear HO158; clear BK145; clear BK146; clear HB; have HO158 := n0_; have BK145 := n1_; have BK146 := n2_; have HB := n3_; clear n0_ n1_ n2_ n3_; (try clear hb); (try clear hb2); (try clear hk); (try clear hi)))
                      go_roundg k2
                      case measure => have := HJ4.out; have := HK2.out; omega
                      case rel => exact ⟨(y156), (t159), (by first | rfl | (simp; done) | (simp [*]; done)), H', ⟨by have := HJ4.out; have := HK2.out; omega⟩, ⟨by (with_reducible repeat (first | apply Kd.R_alloc | apply Kd.R_drewN | apply Kd.R_drew)); exact HO158.out⟩, ⟨by (with_reducible repeat (first | refine blk_drewN ?_ _ | refine blk_drew ?_ | refine blk_alloc ?_ _)); exact BK145.out⟩, ⟨by (with_reducible repeat (first | refine blk_drewN ?_ _ | refine blk_drew ?_ | refine blk_alloc ?_ _)); exact BK146.out⟩, ⟨by repeat (first | (with_reducible first | exact HB.out | apply below_alloc | apply pw_below_drewN | apply below_drew1 | refine below_set ?_ GE145.out | refine below_set ?_ GE146.out) | exact HB.out)⟩⟩
                    · rw [if_neg c61] at H
                      exact absurd H (by simp)
                · replace c49 := Bool.eq_false_iff.mpr c49
                  subst c49
                  have H1 : (some ([] : List Int)) = some r := by rw [if_neg (show ¬ (false = true) by decide)] at H; exact H
                  clear H
                  have H := H1
                  clear H1
                  obtain rfl := Option.some.inj H
                  have hnb75 := NB145_146.out
                  have hnc75 := NB146_145.out
                  have hcz76_0 : wr.cell? ⟨gb145, 0, none⟩ = some (.int .i64 a0_0) := (blk_cell BK145.out 0).trans rfl
                  have hcz76_1 : wr.cell? ⟨gb145, 1, none⟩ = some (.int .i64 a0_1) := (blk_cell BK145.out 1).trans rfl
                  have hcz76_2 : wr.cell? ⟨gb145, 2, none⟩ = some (.slice A0_2 l0_2.length c0_2) := (blk_cell BK145.out 2).trans rfl
                  have hfz76_0 := blk_frozen BK145.out 0
                  have hfz76_1 := blk_frozen BK145.out 1
                  have hfz76_2 := blk_frozen BK145.out 2
                  have hcz77_0 : wr.cell? ⟨gb146, 0, none⟩ = some (.slice A1_0 l1_0.length c1_0) := (blk_cell BK146.out 0).trans rfl
                  have hfz77_0 := blk_frozen BK146.out 0
                  go_wp2_with (first | ((with_reducible refine gate_callee (f := 109) rfl ?_); refine goesL_ (some 40) rfl rfl Try.func109 (by kernel_rfl) rfl #[.agg #[.int .i64 a0_0, .int .i64 a0_1, .slice A0_2 l0_2.length c0_2], .agg #[.slice A1_0 l1_0.length c1_0], .int .i64 x10_2, .int .i64 a3] rfl (by (try simp only [List.map_toArray, List.map_cons, List.map_nil]); first | done | rfl | (simp only [List.length_drop, List.length_take]; rfl)) ?_; (with_reducible refine (impl_PortAt.calls k2 a0_0 a0_1 _ _ l0_2 _ _ l1_0 x10_2 a3 t153 _ ?side1 ?side2 ?side3 ?side4 A32.out).mono ?_); (case side1 => repeat (first | exact (Kd.C_below HR0_2.out HB.out) | (with_reducible refine Kd.C_alloc ?_ _) | (with_reducible refine Kd.C_drewN ?_ _) | (with_reducible refine Kd.C_drew ?_))); (case side2 => exact HC0_2.out); (case side3 => repeat (first | exact (Kd.C_below HR1_0.out HB.out) | (with_reducible refine Kd.C_alloc ?_ _) | (with_reducible refine Kd.C_drewN ?_ _) | (with_reducible refine Kd.C_drew ?_))); (case side4 => exact HC1_0.out); rintro e w78 ⟨rfl, hb⟩; refine ⟨_, rfl, ?_⟩; have n0_ := Aside0.mk (Kd.R_below (by (with_reducible repeat (first | apply Kd.R_alloc | apply Kd.R_drewN | apply Kd.R_drew)); exact HO_9.out) hb); have n1_ := Aside0.mk (blk_below (g := gb145) (o := .cells #[.int .i64 a0_0, .int .i64 a0_1, .slice A0_2 l0_2.length c0_2] 34 (0, 0)) (by (with_reducible repeat (first | refine blk_drewN ?_ _ | refine blk_drew ?_ | refine blk_alloc ?_ _)); exact BK145.out) hb); have n2_ := Aside0.mk (blk_below (g := gb146) (o := .cells #[.slice A1_0 l1_0.length c1_0] 36 (0, 0)) (by (with_reducible repeat (first | refine blk_drewN ?_ _ | refine blk_drew ?_ | refine blk_alloc ?_ _)); exact BK146.out) hb); have n3_ := Aside0.mk (below_step (by repeat (first | (with_reducible first | exact HB.out | apply below_alloc | apply pw_below_drewN | apply below_drew1 | refine below_set ?_ GE145.out | refine below_set ?_ GE146.out) | exact HB.out)) hb); clear HO_9; clear BK145; clear BK146; clear HB; have HO_9 := n0_; have BK145 := n1_; have BK146 := n2_; have HB := n3_; clear n0_ n1_ n2_ n3_; (try clear hb); (try clear hb2); (try clear hk); (try clear hi); have hcz79_0 : w78.cell? ⟨gb145, 0, none⟩ = some (.int .i64 a0_0) := (blk_cell BK145.out 0).trans rfl; have hcz79_1 : w78.cell? ⟨gb145, 1, none⟩ = some (.int .i64 a0_1) := (blk_cell BK145.out 1).trans rfl; have hcz79_2 : w78.cell? ⟨gb145, 2, none⟩ = some (.slice A0_2 l0_2.length c0_2) := (blk_cell BK145.out 2).trans rfl; have hfz79_0 := blk_frozen BK145.out 0; have hfz79_1 := blk_frozen BK145.out 1; have hfz79_2 := blk_frozen BK145.out 2) | ((with_reducible refine gate_callee (f := 110) rfl ?_); refine goesL_ (some 57) rfl rfl Try.func110 (by kernel_rfl) rfl #[.agg #[.int .i64 a0_0, .int .i64 a0_1, .slice A0_2 l0_2.length c0_2], .int .i64 (wrap64 ((wrap64 (4 * x10_2)) + t153))] rfl (by (try simp only [List.map_toArray, List.map_cons, List.map_nil]); first | done | rfl | (simp only [List.length_drop, List.length_take]; rfl)) ?_; (with_reducible refine (impl_HasChannel.calls k2 a0_0 a0_1 _ _ l0_2 (wrap64 ((wrap64 (4 * x10_2)) + t153)) false _ ?side1 ?side2 A48.out).mono ?_); (case side1 => repeat (first | exact (Kd.C_below HR0_2.out HB.out) | (with_reducible refine Kd.C_alloc ?_ _) | (with_reducible refine Kd.C_drewN ?_ _) | (with_reducible refine Kd.C_drew ?_))); (case side2 => exact HC0_2.out); rintro e w80 ⟨rfl, hb⟩; refine ⟨_, rfl, ?_⟩; have n0_ := Aside0.mk (Kd.R_below (by (with_reducible repeat (first | apply Kd.R_alloc | apply Kd.R_drewN | apply Kd.R_drew)); exact HO_9.out) hb); have n1_ := Aside0.mk (blk_below (g := gb145) (o := .cells #[.int .i64 a0_0, .int .i64 a0_1, .slice A0_2 l0_2.length c0_2] 34 (0, 0)) (by (with_reducible repeat (first | refine blk_drewN ?_ _ | refine blk_drew ?_ | refine blk_alloc ?_ _)); exact BK145.out) hb); have n2_ := Aside0.mk (blk_below (g := gb146) (o := .cells #[.slice A1_0 l1_0.length c1_0] 36 (0, 0)) (by (with_reducible repeat (first | refine blk_drewN ?_ _ | refine blk_drew ?_ | refine blk_alloc ?_ _)); exact BK146.out) hb); have n3_ := Aside0.mk (below_step (by repeat (first | (with_reducible first | exact HB.out | apply below_alloc | apply pw_below_drewN | apply below_drew1 | refine below_set ?_ GE145.out | refine below_set ?_ GE146.out) | exact HB.out)) hb); clear HO_9; clear BK145; clear BK146; clear HB; have HO_9 := n0_; have BK145 := n1_; have BK146 := n2_; have HB := n3_; clear n0_ n1_ n2_ n3_; (try clear hb); (try clear hb2); (try clear hk); (try clear hi)))
                  go_ret
                  exact ⟨_, by first | rfl | (simp [errW_none, errW_some] <;> rfl) | (simp [*, errW_none, errW_some] <;> rfl), by first | exact Kd.R_nil _ _ _ _ _ | exact Kd.N_nil _ _ _ _ _ | exact Kd.V_nil _ _ _ _ _ | exact Kd.Q_nil _ _ _ _ _ | exact Kd.S_nil _ _ _ _ _, by repeat (first | (with_reducible first | exact HB.out | apply below_alloc | apply pw_below_drewN | apply below_drew1 | refine below_set ?_ GE145.out | refine below_set ?_ GE146.out) | exact HB.out)⟩


-- NOT PRINTED: function 103 (impl_TableOk_1)


/-! ### impl_TableOk: function 44 (by hand) -/
def impl_TableOk.l0 : Nat → Int → Int → List Int → Option (Bool)
  | 0, _, _, _ => none
  | k + 1, n, i, p => if i < n then (if 0 ≤ (wrap64 ((wrap64 (i * n)) + i)) then (if (wrap64 ((wrap64 (i * n)) + i)) < (p.length : Int) then (if (rd p (wrap64 ((wrap64 (i * n)) + i))) = 4 then (impl_TableOk.l0 k n (wrap64 (i + 1)) p) else (some false)) else (none)) else (none)) else (some true)
def impl_TableOk.wk (k : Nat) (w h : Int) (l p : List Int) : List (Int × Int) → Option (Bool)
  | [] => some true
  | (a, b) :: r => (impl_WalkTable.f k w h l p a b).bind fun x => (if (x.length : Int) > 0 then (impl_TableOk.wk k w h l p r) else (some false))
def impl_TableOk.f (k : Nat) (a0_0 : Int) (a0_1 : Int) (l0_2 : List Int) (l1_0 : List Int) : Option (Bool) := (impl_NodeCount.f a0_0 a0_1).bind fun n => ((impl_MeshOk.f k a0_0 a0_1 l0_2).bind fun m => (if m = true then (if (l1_0.length : Int) = (wrap64 (n * n)) then ((impl_TableOk.l0 k n 0 l1_0).bind fun d => (if d = true then (impl_TableOk.wk k a0_0 a0_1 l0_2 l1_0 (pall n.toNat 0)) else (some false))) else (some false)) else (some false)))
theorem impl_TableOk.mono_l : ∀ k, (∀ y0 y1 y2, LeO (impl_TableOk.l0 k y0 y1 y2) (impl_TableOk.l0 (k + 1) y0 y1 y2))
  | 0 => fun _ _ _ r h => by simp [impl_TableOk.l0] at h
  | k + 1 => by
    have ih0 := impl_TableOk.mono_l k
    intro y0 y1 y2
    unfold impl_TableOk.l0
    repeat' first
      | (with_reducible exact ih0 _ _ _)
      | (with_reducible exact LeO.refl _)
      | (with_reducible exact LeO.none _)
      | (with_reducible refine LeO.ite ?_ ?_)
      | (with_reducible refine LeO.bind ?_ (fun _ => ?_))
theorem impl_TableOk.mono_w (w h : Int) (l p : List Int) (k : Nat) : ∀ r, LeO (impl_TableOk.wk k w h l p r) (impl_TableOk.wk (k + 1) w h l p r)
  | [] => LeO.refl _
  | (a, b) :: r => by
    have ih := impl_TableOk.mono_w w h l p k r
    unfold impl_TableOk.wk
    exact LeO.bind (impl_WalkTable.mono _ _ _ _ _ _ _) (fun x => LeO.ite ih (LeO.refl _))
theorem impl_TableOk.mono : ∀ a0 a1 a2 a3 k, LeO (impl_TableOk.f k a0 a1 a2 a3) (impl_TableOk.f (k + 1) a0 a1 a2 a3) := by
  intro a0 a1 a2 a3 k
  unfold impl_TableOk.f
  exact LeO.bind (LeO.refl _) fun _ => LeO.bind (impl_MeshOk.mono _ _ _ _) fun _ => LeO.ite (LeO.ite (LeO.bind (impl_TableOk.mono_l k _ _ _) fun _ => LeO.ite (impl_TableOk.mono_w _ _ _ _ _ _) (LeO.refl _)) (LeO.refl _)) (LeO.refl _)
theorem nodes_nat {w h n : Int} (hn : impl_NodeCount.f w h = some n) : ∃ m : Nat, n = (m : Int) ∧ m ≤ 16 := by
  unfold impl_NodeCount.f impl_GridOk.f impl_inside.f at hn
  by_cases h1 : 1 ≤ w
  · by_cases h2 : w ≤ 4
    · by_cases h3 : 1 ≤ h
      · by_cases h4 : h ≤ 4
        · have hw : w = 1 ∨ w = 2 ∨ w = 3 ∨ w = 4 := by omega
          have hh : h = 1 ∨ h = 2 ∨ h = 3 ∨ h = 4 := by omega
          rcases hw with rfl | rfl | rfl | rfl <;> rcases hh with rfl | rfl | rfl | rfl <;> simp [wrap64] at hn <;> exact ⟨n.toNat, by omega, by omega⟩
        · simp [h1, h2, h3, h4] at hn; exact ⟨0, by omega, by omega⟩
      · simp [h1, h2, h3] at hn; exact ⟨0, by omega, by omega⟩
    · simp [h1, h2] at hn; exact ⟨0, by omega, by omega⟩
  · simp [h1] at hn; exact ⟨0, by omega, by omega⟩
set_option maxHeartbeats 8000000 in
set_option maxRecDepth 100000 in
/-- the visitor of TableOk: does a walk lead there -/
theorem impl_TableOk.clo (k : Nat) (w h : Int) (A : Option Addr) (c : Nat) (l : List Int) (A1 : Option Addr) (c1 : Nat) (p : List Int) (a b : Int) (x : List Int) (bm bt : Nat) (W : World)
    (bk1 : W.heap[bm]? = some (.cells #[.int .i64 w, .int .i64 h, .slice A l.length c] 34 (0, 0))) (bk2 : W.heap[bt]? = some (.cells #[.slice A1 p.length c1] 36 (0, 0)))
    (hr : Kd.C (Kd.int .i64) W A l.length l) (hc : l.length ≤ c) (hr1 : Kd.C (Kd.int .i64) W A1 p.length p) (hc1 : p.length ≤ c1) (hx : impl_WalkTable.f k w h l p a b = some x) :
    Calls Try.prog 103 #[.int .i64 a, .int .i64 b, .pointer (some ⟨bm, 0, none⟩), .pointer (some ⟨bt, 0, none⟩)] W fun e W' => e = .returned (.bool (decide ((x.length : Int) > 0))) ∧ Below W.heap.size W W' := by
  have hu1 := Try.underlying34
  have hu2 := Try.underlying36
  have HX := Aside0.mk hx
  have HR := Aside0.mk hr
  have HR1 := Aside0.mk hr1
  have BK1 := Aside0.mk bk1
  have BK2 := Aside0.mk bk2
  clear hx hr hr1 bk1 bk2
  have e0 : W.cell? ⟨bm, 0, none⟩ = some (.int .i64 w) := (blk_cell BK1.out 0).trans rfl
  have e1 : W.cell? ⟨bm, 1, none⟩ = some (.int .i64 h) := (blk_cell BK1.out 1).trans rfl
  have e2 : W.cell? ⟨bm, 2, none⟩ = some (.slice A l.length c) := (blk_cell BK1.out 2).trans rfl
  have e3 : W.cell? ⟨bt, 0, none⟩ = some (.slice A1 p.length c1) := (blk_cell BK2.out 0).trans rfl
  have HB := Aside0.mk (Below.refl W.heap.size W)
  cases hd : decide ((x.length : Int) > 0) with
  | true =>
    have hd2 : decide (0 < (x.length : Int)) = true := by simpa using hd
    have hd3 : decide (0 < x.length) = true := by simpa using hd
    clear hd
    go_enter Try.func103, Try.ntmps103
    go_wp2_with (go_at_call 52; refine (impl_WalkTable.calls k w h A c l A1 c1 p a b x _ (Kd.C_below HR.out HB.out) hc (Kd.C_below HR1.out HB.out) hc1 HX.out).mono ?_; rintro e w' ⟨v, rfl, ho, hb⟩; obtain ⟨A2, c2, rfl, hl2, _⟩ := Kd.R_reads ho; clear ho; have HB2 := Aside0.mk hb; clear hb)
    go_ret
    exact ⟨by first | rfl | (simp; done) | (simp [*]; done), HB2.out⟩
  | false =>
    have hd2 : decide (0 < (x.length : Int)) = false := by simpa using hd
    have hd3 : decide (0 < x.length) = false := by simpa using hd
    clear hd
    go_enter Try.func103, Try.ntmps103
    go_wp2_with (go_at_call 52; refine (impl_WalkTable.calls k w h A c l A1 c1 p a b x _ (Kd.C_below HR.out HB.out) hc (Kd.C_below HR1.out HB.out) hc1 HX.out).mono ?_; rintro e w' ⟨v, rfl, ho, hb⟩; obtain ⟨A2, c2, rfl, hl2, _⟩ := Kd.R_reads ho; clear ho; have HB2 := Aside0.mk hb; clear hb)
    go_ret
    exact ⟨by first | rfl | (simp; done) | (simp [*]; done), HB2.out⟩
set_option maxHeartbeats 4000000 in
set_option maxRecDepth 100000 in
theorem impl_TableOk.calls (k : Nat) (a0_0 : Int) (a0_1 : Int) (A0_2 : Option Addr) (c0_2 : Nat) (l0_2 : List Int) (A1_0 : Option Addr) (c1_0 : Nat) (l1_0 : List Int) (r : Bool) (w : World) (hr0_2 : Kd.C (Kd.int .i64) w A0_2 l0_2.length l0_2) (hc0_2 : l0_2.length ≤ c0_2) (hr1_0 : Kd.C (Kd.int .i64) w A1_0 l1_0.length l1_0) (hc1_0 : l1_0.length ≤ c1_0) (h : impl_TableOk.f k a0_0 a0_1 l0_2 l1_0 = some r) :
    Calls Try.prog 44 #[.agg #[.int .i64 a0_0, .int .i64 a0_1, .slice A0_2 l0_2.length c0_2], .agg #[.slice A1_0 l1_0.length c1_0]] w fun e w' => e = .returned (.bool r) ∧ Below w.heap.size w w' := by
  have hu1 := Try.underlying34
  have hu2 := Try.underlying36
  have hu3 := Try.underlying32
  have HR := Aside0.mk hr0_2
  have HR1 := Aside0.mk hr1_0
  have HB := Aside0.mk (Below.refl w.heap.size w)
  unfold impl_TableOk.f at h
  obtain ⟨n, hn, h⟩ := Option.bind_eq_some_iff.1 h
  obtain ⟨m, hm, h⟩ := Option.bind_eq_some_iff.1 h
  obtain ⟨N, rfl, hN⟩ := nodes_nat hn
  simp only [Int.toNat_natCast] at h
  have HN := Aside0.mk hn
  have HM := Aside0.mk hm
  have H := Aside0.mk h
  have hpl : l1_0.length ≤ 9223372036854775807 := hr1_0.2.1
  clear hr0_2 hr1_0 hn hm h
  obtain ⟨M, hM⟩ : ∃ M : Nat, M = N * N := ⟨_, rfl⟩
  have hM2 : M ≤ 256 := by rw [hM]; exact Nat.mul_le_mul hN hN
  have hw0 : wrap64 ((N : Int) * (N : Int)) = (M : Int) := by
    rw [show (N : Int) * (N : Int) = (M : Int) by rw [hM]; simp]
    unfold wrap64; omega
  have hw1 : IntKind.i64.wrap ((N : Int) * (N : Int)) = (M : Int) := (i64_w _).trans hw0
  have HMM := Aside0.mk hM
  have H' : Aside0 ((if m = true then (if (l1_0.length : Int) = (M : Int) then ((impl_TableOk.l0 k (N : Int) 0 l1_0).bind fun d => (if d = true then (impl_TableOk.wk k a0_0 a0_1 l0_2 l1_0 (pall N 0)) else (some false))) else (some false)) else (some false)) = some r) := ⟨by rw [← hw0]; exact H.out⟩
  clear H hM
  have HW0 := Aside0.mk hw0
  clear hw0
  go_enter Try.func44, Try.ntmps44
  go_wp2_with (first | ((with_reducible refine gate_dst (N := 2) rfl ?_); refine box_event ?hg (N := 2) ?hd (cs := #[.int .i64 a0_0, .int .i64 a0_1, .slice A0_2 l0_2.length c0_2]) (t := 34) ?hr ?_; (case hd => rfl); (case hg => rfl); (case hr => first | (go_simp; done) | (go_simp; rfl)); intro gm hg w1 hbox hb; have n1 := Aside0.mk (below_step (by repeat (first | (with_reducible first | exact HB.out | apply below_alloc | apply pw_below_drewN | apply below_drew1) | exact HB.out)) hb); have n2 := Aside0.mk hbox; clear HB hb hbox hg; have HB := n1; have BKm := n2; clear n1 n2) | ((with_reducible refine gate_dst (N := 3) rfl ?_); refine box_event ?hg (N := 3) ?hd (cs := #[.slice A1_0 l1_0.length c1_0]) (t := 36) ?hr ?_; (case hd => rfl); (case hg => rfl); (case hr => first | (go_simp; done) | (go_simp; rfl)); intro gt hg w2 hbox hb; have n1 := Aside0.mk (below_step (by repeat (first | (with_reducible first | exact HB.out | apply below_alloc | apply pw_below_drewN | apply below_drew1) | exact HB.out)) hb); have n2 := Aside0.mk hbox; have n3 := Aside0.mk (blk_below (by (with_reducible repeat (first | refine blk_drewN ?_ _ | refine blk_drew ?_ | refine blk_alloc ?_ _)); exact BKm.out) hb); clear HB BKm hb hbox hg; have HB := n1; have BKt := n2; have BKm := n3; clear n1 n2 n3; have e0 : w2.cell? ⟨gm, 0, none⟩ = some (.int .i64 a0_0) := (blk_cell BKm.out 0).trans rfl; have e1 : w2.cell? ⟨gm, 1, none⟩ = some (.int .i64 a0_1) := (blk_cell BKm.out 1).trans rfl; have e2 : w2.cell? ⟨gm, 2, none⟩ = some (.slice A0_2 l0_2.length c0_2) := (blk_cell BKm.out 2).trans rfl; have e3 : w2.cell? ⟨gt, 0, none⟩ = some (.slice A1_0 l1_0.length c1_0) := (blk_cell BKt.out 0).trans rfl))
  refine (impl_NodeCount.calls a0_0 a0_1 (N : Int) _ HN.out).mono ?_
  rintro e w3 ⟨rfl, hb⟩
  clear e0 e1 e2 e3
  have n1 := Aside0.mk (below_step (by repeat (first | (with_reducible first | exact HB.out | apply below_alloc | apply pw_below_drewN | apply below_drew1) | exact HB.out)) hb)
  have n2 := Aside0.mk (blk_below (by (with_reducible repeat (first | refine blk_drewN ?_ _ | refine blk_drew ?_ | refine blk_alloc ?_ _)); exact BKm.out) hb)
  have n3 := Aside0.mk (blk_below (by (with_reducible repeat (first | refine blk_drewN ?_ _ | refine blk_drew ?_ | refine blk_alloc ?_ _)); exact BKt.out) hb)
  clear HB BKm BKt hb
  have HB := n1
  have BKm := n2
  have BKt := n3
  clear n1 n2 n3
  have e0 : w3.cell? ⟨gm, 0, none⟩ = some (.int .i64 a0_0) := (blk_cell BKm.out 0).trans rfl
  have e1 : w3.cell? ⟨gm, 1, none⟩ = some (.int .i64 a0_1) := (blk_cell BKm.out 1).trans rfl
  have e2 : w3.cell? ⟨gm, 2, none⟩ = some (.slice A0_2 l0_2.length c0_2) := (blk_cell BKm.out 2).trans rfl
  have e3 : w3.cell? ⟨gt, 0, none⟩ = some (.slice A1_0 l1_0.length c1_0) := (blk_cell BKt.out 0).trans rfl
  go_wp2_with (fail)
  refine (impl_MeshOk.calls k a0_0 a0_1 A0_2 c0_2 l0_2 m _ (Kd.C_below HR.out (by repeat (first | (with_reducible first | exact HB.out | apply below_alloc | apply pw_below_drewN | apply below_drew1) | exact HB.out))) hc0_2 HM.out).mono ?_
  rintro e w4 ⟨rfl, hb⟩
  clear e0 e1 e2 e3
  have n1 := Aside0.mk (below_step (by repeat (first | (with_reducible first | exact HB.out | apply below_alloc | apply pw_below_drewN | apply below_drew1) | exact HB.out)) hb)
  have n2 := Aside0.mk (blk_below (by (with_reducible repeat (first | refine blk_drewN ?_ _ | refine blk_drew ?_ | refine blk_alloc ?_ _)); exact BKm.out) hb)
  have n3 := Aside0.mk (blk_below (by (with_reducible repeat (first | refine blk_drewN ?_ _ | refine blk_drew ?_ | refine blk_alloc ?_ _)); exact BKt.out) hb)
  clear HB BKm BKt hb
  have HB := n1
  have BKm := n2
  have BKt := n3
  clear n1 n2 n3
  have e0 : w4.cell? ⟨gm, 0, none⟩ = some (.int .i64 a0_0) := (blk_cell BKm.out 0).trans rfl
  have e1 : w4.cell? ⟨gm, 1, none⟩ = some (.int .i64 a0_1) := (blk_cell BKm.out 1).trans rfl
  have e2 : w4.cell? ⟨gm, 2, none⟩ = some (.slice A0_2 l0_2.length c0_2) := (blk_cell BKm.out 2).trans rfl
  have e3 : w4.cell? ⟨gt, 0, none⟩ = some (.slice A1_0 l1_0.length c1_0) := (blk_cell BKt.out 0).trans rfl
  cases m with
  | false =>
    have h := H'.out
    clear H'
    rw [if_neg (by decide)] at h
    obtain rfl := Option.some.inj h
    go_wp2
    go_ret
    exact ⟨rfl, HB.out⟩
  | true =>
    have H2 := Aside0.mk ((if_pos rfl).symm.trans H'.out)
    clear H'
    by_cases q : l1_0.length = M
    · have H3 := Aside0.mk ((if_pos (show (l1_0.length : Int) = (M : Int) by omega)).symm.trans H2.out)
      clear H2
      obtain ⟨d, hd, h⟩ := Option.bind_eq_some_iff.1 H3.out
      clear H3
      have HD := Aside0.mk hd
      have H4 := Aside0.mk h
      clear hd h
      have q1 : ((l1_0.length : Int) != (M : Int)) = false := bne_eq_false_iff_eq.2 (by omega)
      have q2 : ((l1_0.length : Int) == (M : Int)) = true := beq_iff_eq.2 (by omega)
      have q3 : (l1_0.length != M) = false := bne_eq_false_iff_eq.2 q
      have q4 : (l1_0.length == M) = true := beq_iff_eq.2 q
      have HQ := Aside0.mk q
      clear q
      go_wp2
      go_loopg [23] (N + 1) (fun kq v23 wr => ∃ (i kk : Nat), i ≤ N ∧ N - i < kq ∧ v23 = .int .i64 (i : Int) ∧ Aside0 (impl_TableOk.l0 kk (N : Int) (i : Int) l1_0 = some d) ∧ Aside0 (wr.heap[gm]? = some (.cells #[.int .i64 a0_0, .int .i64 a0_1, .slice A0_2 l0_2.length c0_2] 34 (0, 0))) ∧ Aside0 (wr.heap[gt]? = some (.cells #[.slice A1_0 l1_0.length c1_0] 36 (0, 0))) ∧ Aside0 (Below w.heap.size w wr))
      case atStart => exact ⟨0, k, Nat.zero_le _, by omega, rfl, HD, BKm, BKt, HB⟩
      case round =>
        clear HD BKm BKt HB e0 e1 e2 e3
        obtain ⟨i, kk, hi, hgk, rfl, HD, BKm, BKt, HB⟩ := hrel
        cases kk with
        | zero => exact absurd HD.out (by simp [impl_TableOk.l0])
        | succ kk =>
          have h := HD.out
          clear HD
          simp only [impl_TableOk.l0] at h
          by_cases hlt : i < N
          · have hltz : (i : Int) < (N : Int) := by omega
            rw [if_pos hltz] at h
            obtain ⟨X, hX⟩ : ∃ X : Nat, X = i * N := ⟨_, rfl⟩
            have hX2 : X ≤ 256 := by rw [hX]; exact (Nat.mul_le_mul (show i ≤ 16 by omega) hN : i * N ≤ 16 * 16)
            have hX3 : X + i < M := by
              rw [HMM.out, hX]
              calc i * N + i < i * N + N := by omega
                _ = (i + 1) * N := by rw [Nat.succ_mul]
                _ ≤ N * N := Nat.mul_le_mul_right _ hlt
            obtain ⟨Y, hY⟩ : ∃ Y : Nat, Y = X + i := ⟨_, rfl⟩
            have hY2 : Y ≤ 512 := by omega
            have hY3 : Y < l1_0.length := by rw [HQ.out]; omega
            have p1 : (0 : Int) ≤ (Y : Int) := by omega
            have p2 : (Y : Int) < (l1_0.length : Int) := by omega
            have hy2 : (X : Int) + (i : Int) = (Y : Int) := by omega
            have HY0 : Aside0 (wrap64 ((X : Int) + (i : Int)) = (Y : Int)) := ⟨by unfold wrap64; omega⟩
            have HX0 : Aside0 (wrap64 ((i : Int) * (N : Int)) = (X : Int)) := ⟨by
              rw [show (i : Int) * (N : Int) = (X : Int) by rw [hX]; simp]
              unfold wrap64; omega⟩
            rw [HX0.out, HY0.out, if_pos p1, if_pos p2] at h
            have H5 := Aside0.mk h
            have HX1 := Aside0.mk ((i64_w _).trans HX0.out)
            have HY1 := Aside0.mk ((i64_w _).trans HY0.out)
            clear h hX hY HX0 HY0
            obtain ⟨ad, ead, hx⟩ := Kd.at_int (Kd.C_below HR1.out HB.out) (Y : Int) p1 p2
            subst ead
            have ht : ((Y : Int)).toNat = Y := by simp
            rw [ht] at hx
            clear ht
            generalize hz : rd l1_0 (Y : Int) = z at hx
            have HZ := Aside0.mk hz
            clear hz
            have e3 : wr.cell? ⟨gt, 0, none⟩ = some (.slice (some ad) l1_0.length c1_0) := (blk_cell BKt.out 0).trans rfl
            by_cases q5 : z = 4
            · have q6 : (z != 4) = false := bne_eq_false_iff_eq.2 q5
              have q7 : (z == 4) = true := beq_iff_eq.2 q5
              have H6 : Aside0 (impl_TableOk.l0 kk (N : Int) ((i + 1 : Nat) : Int) l1_0 = some d) := ⟨by
                have h := H5.out
                rw [HZ.out, if_pos q5] at h
                rw [show ((i + 1 : Nat) : Int) = wrap64 ((i : Int) + 1) by unfold wrap64; omega]
                exact h⟩
              clear H5 HZ q5
              have hx1 := HX1.out
              have hy1 := HY1.out
              go_wp2
              clear hx1 hy1
              go_roundg (N - i)
              case measure => omega
              case rel => exact ⟨i + 1, kk, by omega, by omega, by go_num, H6, BKm, BKt, HB⟩
            · have q6 : (z != 4) = true := bne_iff_ne.2 q5
              have q7 : (z == 4) = false := beq_eq_false_iff_ne.2 q5
              have h := H5.out
              rw [HZ.out, if_neg q5] at h
              obtain rfl := Option.some.inj h
              have h2 := H4.out
              rw [if_neg (by decide)] at h2
              obtain rfl := Option.some.inj h2
              clear H5 H4 HZ q5
              have hx1 := HX1.out
              have hy1 := HY1.out
              go_wp2
              go_ret
              exact ⟨rfl, HB.out⟩
          · have hltz : ¬ (i : Int) < (N : Int) := by omega
            rw [if_neg hltz] at h
            obtain rfl := Option.some.inj h
            have H6 := Aside0.mk ((if_pos rfl).symm.trans H4.out)
            clear H4
            have e0 : wr.cell? ⟨gm, 0, none⟩ = some (.int .i64 a0_0) := (blk_cell BKm.out 0).trans rfl
            have e1 : wr.cell? ⟨gm, 1, none⟩ = some (.int .i64 a0_1) := (blk_cell BKm.out 1).trans rfl
            have e2 : wr.cell? ⟨gm, 2, none⟩ = some (.slice A0_2 l0_2.length c0_2) := (blk_cell BKm.out 2).trans rfl
            go_wp2_with (fail)
            refine (impl_pairs.abs a0_0 a0_1 N HN.out hN 103 #[.pointer (some ⟨gm, 0, none⟩), .pointer (some ⟨gt, 0, none⟩)] r (fun l W => impl_TableOk.wk k a0_0 a0_1 l0_2 l1_0 l = some r ∧ Below w.heap.size w W ∧ W.heap[gm]? = some (.cells #[.int .i64 a0_0, .int .i64 a0_1, .slice A0_2 l0_2.length c0_2] 34 (0, 0)) ∧ W.heap[gt]? = some (.cells #[.slice A1_0 l1_0.length c1_0] 36 (0, 0))) (fun W => Below w.heap.size w W) (fun args W => by kernel_rfl) ?hJ ?hstep ?hend _ ⟨H6.out, HB.out, BKm.out, BKt.out⟩).mono ?_
            case hJ =>
              rintro l W W' ⟨h1, h2, h3, h4⟩ hb
              exact ⟨h1, below_step h2 hb, blk_below h3 hb, blk_below h4 hb⟩
            case hstep =>
              rintro a b l W ⟨h1, h2, h3, h4⟩
              unfold impl_TableOk.wk at h1
              obtain ⟨x, hx, h1⟩ := Option.bind_eq_some_iff.1 h1
              refine ⟨decide ((x.length : Int) > 0), (impl_TableOk.clo k a0_0 a0_1 A0_2 c0_2 l0_2 A1_0 c1_0 l1_0 a b x gm gt W h3 h4 (Kd.C_below HR.out h2) hc0_2 (Kd.C_below HR1.out h2) hc1_0 hx).mono ?_⟩
              rintro e W' ⟨rfl, hb⟩
              refine ⟨rfl, fun hd => ⟨?_, below_step h2 hb, blk_below h3 hb, blk_below h4 hb⟩, fun hd => ⟨?_, below_step h2 hb⟩⟩
              · rw [if_pos (of_decide_eq_true hd)] at h1; exact h1
              · rw [if_neg (of_decide_eq_false hd)] at h1; exact (Option.some.inj h1).symm
            case hend =>
              rintro W ⟨h1, h2, _, _⟩
              exact ⟨(Option.some.inj h1).symm, h2⟩
            rintro e w' ⟨rfl, hb⟩
            go_wp2
            go_ret
            exact ⟨rfl, hb⟩
    · have q1 : ((l1_0.length : Int) != (M : Int)) = true := bne_iff_ne.2 (by omega)
      have q2 : ((l1_0.length : Int) == (M : Int)) = false := beq_eq_false_iff_ne.2 (by omega)
      have q3 : (l1_0.length != M) = true := bne_iff_ne.2 q
      have q4 : (l1_0.length == M) = false := beq_eq_false_iff_ne.2 q
      have h := H2.out
      clear H2
      rw [if_neg (by omega)] at h
      obtain rfl := Option.some.inj h
      clear q
      go_wp2
      go_ret
      exact ⟨rfl, HB.out⟩



-- NOT PRINTED: function 131 (impl_adjacent_1)


/-! ### impl_adjacent: function 82 (by hand) -/
/-- what a visitor of adjacent may do. J: what holds while these pairs are still to be visited; O: the blocks that it may write -/
structure Vis (g : Nat) (lb : Array Value) (w00 : World) (J : List (Int × Int) → World → Prop) (O : World → Nat → Prop) : Prop where
  eg : ∀ args W, (callFunc g args).run Try.prog W = .ok (.enter g args) W
  elder : ∀ l W, J l W → Below w00.heap.size w00 W
  lt : ∀ l W k, J l W → O W k → k < W.heap.size
  move : ∀ l W W', J l W → Below W.heap.size W W' → J l W' ∧ ∀ k, O W' k → O W k
  step : ∀ a b l W, J ((a, b) :: l) W → Calls Try.prog g (#[.int .i64 a, .int .i64 b] ++ lb) W fun e W' => e = .returned (.tuple #[]) ∧ J l W' ∧ W.heap.size ≤ W'.heap.size ∧ (∀ k, k < W.heap.size → ¬ O W k → W'.heap[k]? = W.heap[k]?) ∧ (∀ k, O W' k → O W k ∨ W.heap.size ≤ k)
/-- two adjacent elements, from the place i on -/
def adf (x : List Int) (i : Nat) : List (Int × Int) := (List.range' i (x.length - i)).map fun (j : Nat) => (rd x ((j - 1 : Nat) : Int), rd x (j : Int))
theorem adf_lt {x : List Int} {i : Nat} (h : i < x.length) : adf x i = (rd x ((i - 1 : Nat) : Int), rd x (i : Int)) :: adf x (i + 1) := by
  unfold adf
  rw [show x.length - i = (x.length - (i + 1)) + 1 by omega, List.range'_succ, List.map_cons]
theorem adf_end {x : List Int} {i : Nat} (h : x.length ≤ i) : adf x i = [] := by
  unfold adf
  rw [show x.length - i = 0 by omega]
  rfl
def impl_adjacent.wk (k : Nat) (w h : Int) (l p : List Int) : List (Int × Int) → Option (List (Int × Int))
  | [] => some []
  | (a, b) :: r => (impl_WalkTable.f k w h l p a b).bind fun x => (impl_adjacent.wk k w h l p r).bind fun t => some (adf x 1 ++ t)
theorem impl_adjacent.mono_w (w h : Int) (l p : List Int) (k : Nat) : ∀ r, LeO (impl_adjacent.wk k w h l p r) (impl_adjacent.wk (k + 1) w h l p r)
  | [] => LeO.refl _
  | (a, b) :: r => by
    have ih := impl_adjacent.mono_w w h l p k r
    unfold impl_adjacent.wk
    exact LeO.bind (impl_WalkTable.mono _ _ _ _ _ _ _) (fun x => LeO.bind ih (fun _ => LeO.refl _))
/-- the boxes of adjacent, and that the visitor writes none of them -/
def AdB (w h : Int) (A : Option Addr) (n c : Nat) (A1 : Option Addr) (n1 c1 : Nat) (g : Nat) (lb : Array Value) (bm bt bv : Nat) (O : World → Nat → Prop) (W : World) : Prop :=
  W.heap[bm]? = some (.cells #[.int .i64 w, .int .i64 h, .slice A n c] 34 (0, 0)) ∧ W.heap[bt]? = some (.cells #[.slice A1 n1 c1] 36 (0, 0)) ∧ W.heap[bv]? = some (.cells #[.func (.func g) #[] lb] 98 (0, 0)) ∧ ¬ O W bm ∧ ¬ O W bt ∧ ¬ O W bv
theorem AdB.below {w h : Int} {A : Option Addr} {n c : Nat} {A1 : Option Addr} {n1 c1 g : Nat} {lb : Array Value} {bm bt bv : Nat} {O : World → Nat → Prop} {W W' : World} (t : AdB w h A n c A1 n1 c1 g lb bm bt bv O W) (hb : Below W.heap.size W W') (hO : ∀ k, O W' k → O W k) : AdB w h A n c A1 n1 c1 g lb bm bt bv O W' := by
  obtain ⟨t1, t2, t3, t4, t5, t6⟩ := t
  exact ⟨blk_below t1 hb, blk_below t2 hb, blk_below t3 hb, fun x => t4 (hO _ x), fun x => t5 (hO _ x), fun x => t6 (hO _ x)⟩
theorem AdB.step {w h : Int} {A : Option Addr} {n c : Nat} {A1 : Option Addr} {n1 c1 g : Nat} {lb : Array Value} {bm bt bv : Nat} {O : World → Nat → Prop} {W W' : World} (t : AdB w h A n c A1 n1 c1 g lb bm bt bv O W) (hf : ∀ k, k < W.heap.size → ¬ O W k → W'.heap[k]? = W.heap[k]?) (hO : ∀ k, O W' k → O W k ∨ W.heap.size ≤ k) : AdB w h A n c A1 n1 c1 g lb bm bt bv O W' := by
  obtain ⟨t1, t2, t3, t4, t5, t6⟩ := t
  have m : ∀ k o, W.heap[k]? = some o → ¬ O W k → W'.heap[k]? = some o ∧ ¬ O W' k := fun k o hk no => by
    have hlt := (Array.getElem?_eq_some_iff.1 hk).1
    refine ⟨(hf k hlt no).trans hk, fun x => ?_⟩
    rcases hO k x with y | y
    · exact no y
    · omega
  exact ⟨(m _ _ t1 t4).1, (m _ _ t2 t5).1, (m _ _ t3 t6).1, (m _ _ t1 t4).2, (m _ _ t2 t5).2, (m _ _ t3 t6).2⟩
set_option maxHeartbeats 8000000 in
set_option maxRecDepth 100000 in
/-- the visitor that adjacent hands to pairs: it visits the adjacent channels of one walk -/
theorem impl_adjacent.clo (k : Nat) (w h : Int) (A : Option Addr) (c : Nat) (l : List Int) (A1 : Option Addr) (c1 : Nat) (p : List Int) (a b : Int) (x : List Int) (bm bt bv g : Nat) (lb : Array Value) (w00 W : World) (J : List (Int × Int) → World → Prop) (O : World → Nat → Prop) (V : Vis g lb w00 J O) (rest : List (Int × Int))
    (hJ : J (adf x 1 ++ rest) W) (hB : AdB w h A l.length c A1 p.length c1 g lb bm bt bv O W)
    (hr : Kd.C (Kd.int .i64) w00 A l.length l) (hc : l.length ≤ c) (hr1 : Kd.C (Kd.int .i64) w00 A1 p.length p) (hc1 : p.length ≤ c1) (hx : impl_WalkTable.f k w h l p a b = some x) :
    Calls Try.prog 131 #[.int .i64 a, .int .i64 b, .pointer (some ⟨bm, 0, none⟩), .pointer (some ⟨bt, 0, none⟩), .pointer (some ⟨bv, 0, none⟩)] W fun e W' => e = .returned (.bool true) ∧ J rest W' ∧ AdB w h A l.length c A1 p.length c1 g lb bm bt bv O W' := by
  have hu1 := Try.underlying34
  have hu2 := Try.underlying36
  have HV := Aside0.mk V
  have HX := Aside0.mk hx
  have HR := Aside0.mk hr
  have HR1 := Aside0.mk hr1
  have HJ := Aside0.mk hJ
  have HB := Aside0.mk hB
  clear V hx hr hr1 hJ
  have e0 : W.cell? ⟨bm, 0, none⟩ = some (.int .i64 w) := (blk_cell hB.1 0).trans rfl
  have e1 : W.cell? ⟨bm, 1, none⟩ = some (.int .i64 h) := (blk_cell hB.1 1).trans rfl
  have e2 : W.cell? ⟨bm, 2, none⟩ = some (.slice A l.length c) := (blk_cell hB.1 2).trans rfl
  have e3 : W.cell? ⟨bt, 0, none⟩ = some (.slice A1 p.length c1) := (blk_cell hB.2.1 0).trans rfl
  clear hB
  go_enter Try.func131, Try.ntmps131
  go_wp2_with (go_at_call 52; refine (impl_WalkTable.calls k w h A c l A1 c1 p a b x _ (Kd.C_below HR.out (HV.out.elder _ _ HJ.out)) hc (Kd.C_below HR1.out (HV.out.elder _ _ HJ.out)) hc1 HX.out).mono ?_; rintro e w1 ⟨v, rfl, ho, hb⟩; obtain ⟨A2, c2, rfl, hl2, _⟩ := Kd.R_reads ho; have n1 := Aside0.mk (HV.out.move _ _ _ HJ.out hb); have n2 := Aside0.mk (AdB.below HB.out hb n1.out.2); have HO : Aside0 (Kd.R (Kd.int .i64) 3 w1 W.heap.size (fun k => ¬ O w1 k) (.slice A2 x.length c2) x) := ⟨Kd.R_mono (Kd.R_bound ho) (fun k hk ho' => by have z := HV.out.lt _ _ k HJ.out (n1.out.2 k ho'); have := hk.2.1; omega)⟩; clear HJ HB ho hb e0 e1 e2 e3; have HJ := Aside0.mk n1.out.1; have HB := n2; clear n1 n2)
  have hxl : x.length ≤ 9223372036854775807 := (Kd.R_reads' HO.out).2.2.2.1
  go_loopg [9] (x.length + 1) (fun kq v9 wr => ∃ i : Nat, 1 ≤ i ∧ (i ≤ x.length ∨ i = 1) ∧ x.length - i < kq ∧ v9 = .int .i64 (i : Int) ∧ Aside0 (J (adf x i ++ rest) wr) ∧ Aside0 (AdB w h A l.length c A1 p.length c1 g lb bm bt bv O wr) ∧ Aside0 (Kd.R (Kd.int .i64) 3 wr W.heap.size (fun k => ¬ O wr k) (.slice A2 x.length c2) x))
  case atStart => exact ⟨1, by omega, by omega, by omega, rfl, HJ, HB, HO⟩
  case round =>
    clear HJ HB HO
    obtain ⟨i, hi1, hi, hgk, rfl, HJ, HB, HO⟩ := hrel
    by_cases hlt : i < x.length
    · have hltz : (i : Int) < (x.length : Int) := by omega
      have p1 : (0 : Int) ≤ (i : Int) := by omega
      have p2 : (0 : Int) ≤ ((i - 1 : Nat) : Int) := by omega
      have p3 : ((i - 1 : Nat) : Int) < (x.length : Int) := by omega
      have HW : Aside0 (IntKind.i64.wrap ((i : Int) - 1) = ((i - 1 : Nat) : Int)) := ⟨(i64_w _).trans (by unfold wrap64; omega)⟩
      obtain ⟨ad, ead, hx0⟩ := Kd.at_int (Kd.R_reads' HO.out).2.2 ((i - 1 : Nat) : Int) p2 p3
      obtain ⟨ad', ead', hx1⟩ := Kd.at_int (Kd.R_reads' HO.out).2.2 (i : Int) p1 hltz
      subst ead
      obtain rfl : ad = ad' := by injection ead'
      clear ead'
      have HJ2 : Aside0 (J ((rd x ((i - 1 : Nat) : Int), rd x (i : Int)) :: (adf x (i + 1) ++ rest)) wr) := ⟨by have := HJ.out; rw [adf_lt hlt] at this; exact this⟩
      clear HJ
      rw [show ((i - 1 : Nat) : Int).toNat = i - 1 by simp] at hx0
      rw [show (i : Int).toNat = i by simp] at hx1
      generalize hz0 : rd x ((i - 1 : Nat) : Int) = z0 at hx0 HJ2
      generalize hz1 : rd x (i : Int) = z1 at hx1 HJ2
      clear hz0 hz1
      have ev : wr.cell? ⟨bv, 0, none⟩ = some (.func (.func g) #[] lb) := (blk_cell HB.out.2.2.1 0).trans rfl
      have hw1 := HW.out
      go_wp2_with (fail)
      go_still_tail 10, (by kernel_rfl)
      clear hw1 HW
      change wpList _ _ _ _ _ wr.drew
      have hbd : Below wr.heap.size wr wr.drew := (Below.refl _ _).drew
      have n1 := Aside0.mk (HV.out.move _ _ _ HJ2.out hbd)
      have n2 := Aside0.mk (AdB.below HB.out hbd n1.out.2)
      have n3 : Aside0 (Kd.R (Kd.int .i64) 3 wr.drew W.heap.size (fun k => ¬ O wr.drew k) (.slice (some ad) x.length c2) x) := ⟨Kd.R_mono (Kd.R_below HO.out hbd) (fun k hk ho' => hk (n1.out.2 k ho'))⟩
      clear HJ2 HB HO hbd hx0 hx1 ev
      have HS := Aside0.mk (HV.out.step z0 z1 _ _ n1.out.1)
      clear n1
      generalize wr.drew = w2 at n2 n3 HS
      have heg := HV.out.eg
      go_wp2_with (fail)
      clear heg
      refine (HS.out).mono ?_
      rintro e w3 ⟨rfl, hj, hsz, hf, ho⟩
      have HJ := Aside0.mk hj
      have HB := Aside0.mk (AdB.step n2.out hf ho)
      have HO : Aside0 (Kd.R (Kd.int .i64) 3 w3 W.heap.size (fun k => ¬ O w3 k) (.slice (some ad) x.length c2) x) := ⟨Kd.R_mono (Kd.R_move (Kd.R_bound n3.out) (fun k hk => hf k hk.2.2.1 hk.1)) (fun k hk ho' => by rcases ho k ho' with y | y; exact hk.1 y; have := hk.2.2.1; omega)⟩
      clear hj hsz hf ho n2 n3 HS
      go_wp2_with (fail)
      go_roundg (x.length - i)
      case measure => omega
      case rel => exact ⟨i + 1, by omega, by omega, by omega, by go_num, HJ, HB, HO⟩
    · have hltz : ¬ (i : Int) < (x.length : Int) := by omega
      have HJ3 : Aside0 (J rest wr) := ⟨by have := HJ.out; rw [adf_end (by omega), List.nil_append] at this; exact this⟩
      clear HJ
      go_wp2
      go_ret
      exact ⟨rfl, HJ3.out, HB.out⟩
set_option maxHeartbeats 4000000 in
set_option maxRecDepth 100000 in
theorem impl_adjacent.abs (k : Nat) (w h : Int) (A : Option Addr) (c : Nat) (l : List Int) (A1 : Option Addr) (c1 : Nat) (p : List Int) (N : Nat) (hn : impl_NodeCount.f w h = some (N : Int)) (hN : N ≤ 16) (vs : List (Int × Int)) (hvs : impl_adjacent.wk k w h l p (pall N 0) = some vs) (g : Nat) (lb : Array Value) (w00 W : World) (J : List (Int × Int) → World → Prop) (O : World → Nat → Prop) (V : Vis g lb w00 J O) (hJ : J vs W)
    (hr : Kd.C (Kd.int .i64) w00 A l.length l) (hc : l.length ≤ c) (hr1 : Kd.C (Kd.int .i64) w00 A1 p.length p) (hc1 : p.length ≤ c1) :
    Calls Try.prog 82 #[.agg #[.int .i64 w, .int .i64 h, .slice A l.length c], .agg #[.slice A1 p.length c1], .func (.func g) #[] lb] W fun e W' => e = .returned (.tuple #[]) ∧ J [] W' := by
  have hu1 := Try.underlying34
  have hu2 := Try.underlying36
  have hu3 := Try.underlying32
  have HV := Aside0.mk V
  have HN := Aside0.mk hn
  have HVS := Aside0.mk hvs
  have HR := Aside0.mk hr
  have HR1 := Aside0.mk hr1
  have HJ := Aside0.mk hJ
  have HB := Aside0.mk (Below.refl W.heap.size W)
  clear V hn hvs hr hr1 hJ
  go_enter Try.func82, Try.ntmps82
  go_wp2_with (first
    | ((with_reducible refine gate_dst (N := 3) rfl ?_); refine box_event ?hg (N := 3) ?hd (cs := #[.int .i64 w, .int .i64 h, .slice A l.length c]) (t := 34) ?hr ?_; (case hd => rfl); (case hg => rfl); (case hr => first | (go_simp; done) | (go_simp; rfl)); intro gm hgm w1 hbox hb; have n1 := Aside0.mk (below_step HB.out hb); have BKm := Aside0.mk hbox; have GM := Aside0.mk hgm; clear HB hb hbox hgm; have HB := n1; clear n1)
    | ((with_reducible refine gate_dst (N := 4) rfl ?_); refine box_event ?hg (N := 4) ?hd (cs := #[.slice A1 p.length c1]) (t := 36) ?hr ?_; (case hd => rfl); (case hg => rfl); (case hr => first | (go_simp; done) | (go_simp; rfl)); intro gt hgt w2 hbox hb; have n1 := Aside0.mk (below_step HB.out hb); have n2 := Aside0.mk (blk_below BKm.out hb); have BKt := Aside0.mk hbox; have GT : Aside0 (W.heap.size ≤ gt) := ⟨by rw [hgt]; exact HB.out.size⟩; clear HB BKm hb hbox hgt; have HB := n1; have BKm := n2; clear n1 n2)
    | ((with_reducible refine gate_dst (N := 5) rfl ?_); refine box_event ?hg (N := 5) ?hd (cs := #[.func (.func g) #[] lb]) (t := 98) ?hr ?_; (case hd => rfl); (case hg => rfl); (case hr => first | (go_simp; done) | (go_simp; rfl)); intro gv hgv w3 hbox hb; have n1 := Aside0.mk (below_step HB.out hb); have n2 := Aside0.mk (blk_below BKm.out hb); have n3 := Aside0.mk (blk_below BKt.out hb); have BKv := Aside0.mk hbox; have GV : Aside0 (W.heap.size ≤ gv) := ⟨by rw [hgv]; exact HB.out.size⟩; clear HB BKm BKt hb hbox hgv; have HB := n1; have BKm := n2; have BKt := n3; clear n1 n2 n3; have e0 : w3.cell? ⟨gm, 0, none⟩ = some (.int .i64 w) := (blk_cell BKm.out 0).trans rfl; have e1 : w3.cell? ⟨gm, 1, none⟩ = some (.int .i64 h) := (blk_cell BKm.out 1).trans rfl))
  have M1 := HV.out.move _ _ _ HJ.out HB.out
  have nO : ∀ b, W.heap.size ≤ b → ¬ O w3 b := fun b hb ho => by
    have z := HV.out.lt _ _ b HJ.out (M1.2 b ho)
    omega
  have HA : Aside0 (AdB w h A l.length c A1 p.length c1 g lb gm gt gv O w3) := ⟨BKm.out, BKt.out, BKv.out, nO _ (by rw [GM.out]; exact Nat.le_refl _), nO _ GT.out, nO _ GV.out⟩
  have HJ3 := Aside0.mk M1.1
  clear M1 nO e0 e1
  refine (impl_pairs.abs w h N HN.out hN 131 #[.pointer (some ⟨gm, 0, none⟩), .pointer (some ⟨gt, 0, none⟩), .pointer (some ⟨gv, 0, none⟩)] true (fun r W' => ∃ t, impl_adjacent.wk k w h l p r = some t ∧ J t W' ∧ AdB w h A l.length c A1 p.length c1 g lb gm gt gv O W') (fun W' => J [] W') (fun args W => by kernel_rfl) ?hJ ?hstep ?hend _ ⟨vs, HVS.out, HJ3.out, HA.out⟩).mono ?_
  case hJ =>
    rintro r W1 W2 ⟨t, h1, h2, h3⟩ hb
    have z := HV.out.move _ _ _ h2 hb
    exact ⟨t, h1, z.1, AdB.below h3 hb z.2⟩
  case hstep =>
    rintro a b r W1 ⟨t, h1, h2, h3⟩
    unfold impl_adjacent.wk at h1
    obtain ⟨x, hx, h1⟩ := Option.bind_eq_some_iff.1 h1
    obtain ⟨t2, ht2, h1⟩ := Option.bind_eq_some_iff.1 h1
    obtain rfl := Option.some.inj h1
    refine ⟨true, (impl_adjacent.clo k w h A c l A1 c1 p a b x gm gt gv g lb w00 W1 J O HV.out t2 h2 h3 HR.out hc HR1.out hc1 hx).mono ?_⟩
    rintro e W' ⟨rfl, hj, hb⟩
    exact ⟨rfl, fun _ => ⟨t2, ht2, hj, hb⟩, fun hd => absurd hd (by decide)⟩
  case hend =>
    rintro W1 ⟨t, h1, h2, _⟩
    obtain rfl := Option.some.inj h1
    exact ⟨rfl, h2⟩
  rintro e w' ⟨rfl, hj⟩
  go_wp2
  go_end0
  exact ⟨rfl, hj⟩
/-- a captured slice to which a visitor appends: its box bo (cells of type t), its row (elements of type e) -/
def Acc {α : Type} (d : Kd α) (e t : TypeId) (w00 : World) (bo : Nat) (l : List α) (W : World) : Prop :=
  Below w00.heap.size w00 W ∧ w00.heap.size ≤ bo ∧ ∃ v, W.heap[bo]? = some (.cells #[v] t (0, 0)) ∧ d.R e W w00.heap.size (fun _ => True) v l
/-- the blocks that such a visitor may write -/
def AccO (t : TypeId) (bo : Nat) (W : World) (k : Nat) : Prop := k = bo ∨ ∃ v, W.heap[bo]? = some (.cells #[v] t (0, 0)) ∧ v.ownBlock = some k
section
variable {α : Type} {d : Kd α} {e t : TypeId} {w00 W W' : World} {bo : Nat} {l l' : List α}
theorem Acc.move (h : Acc d e t w00 bo l W) (hb : Below W.heap.size W W') : Acc d e t w00 bo l W' ∧ ∀ k, AccO t bo W' k → AccO t bo W k := by
  obtain ⟨h1, h2, v, h3, h4⟩ := h
  refine ⟨⟨below_step h1 hb, h2, v, blk_below h3 hb, Kd.R_below h4 hb⟩, fun k hk => ?_⟩
  rcases hk with hk | ⟨u, hu, hk⟩
  · exact .inl hk
  · refine .inr ⟨u, ?_, hk⟩
    rw [← hu]
    exact (hb.block bo (blk_lt h3)).symm
theorem Acc.lt (h : Acc d e t w00 bo l W) (k : Nat) (hk : AccO t bo W k) : k < W.heap.size := by
  obtain ⟨h1, h2, v, h3, h4⟩ := h
  rcases hk with rfl | ⟨u, hu, hk⟩
  · exact blk_lt h3
  · rw [h3] at hu
    injection hu with hu
    injection hu with hu
    injection hu with hu
    injection hu with hu
    subst hu
    obtain ⟨_, inner, ho, _⟩ := h4
    exact own_lt ho k hk
theorem Acc.put {v v1 : Value} {w1 : World} (hB : Below w00.heap.size w00 w1) (h2 : w00.heap.size ≤ bo) (h3 : W.heap[bo]? = some (.cells #[v] t (0, 0))) (h4 : d.R e W w00.heap.size (fun _ => True) v l) (ht : ∀ q, q ∈ e :: d.E → q ≠ t)
    (hr : d.R e w1 w00.heap.size (fun _ => True) v1 l') (hg : W.grownBy w1 v.ownBlock) (hat : v1.ownBlock = v.ownBlock ∨ ∃ b, v1.ownBlock = some b ∧ W.heap.size ≤ b) :
    Acc d e t w00 bo l' (w1.setCell ⟨bo, 0, none⟩ v1) ∧ W.heap.size ≤ (w1.setCell ⟨bo, 0, none⟩ v1).heap.size ∧ (∀ k, k < W.heap.size → ¬ AccO t bo W k → (w1.setCell ⟨bo, 0, none⟩ v1).heap[k]? = W.heap[k]?) ∧ (∀ k, AccO t bo (w1.setCell ⟨bo, 0, none⟩ v1) k → AccO t bo W k ∨ W.heap.size ≤ k) := by
  have h5 : w1.heap[bo]? = some (.cells #[v] t (0, 0)) := blk_grown h3 hg (Kd.R_ne h4 h3 (ht e (by simp)))
  have h6 : (w1.setCell ⟨bo, 0, none⟩ v1).heap[bo]? = some (.cells #[v1] t (0, 0)) := blk_put h5 0 _ rfl
  refine ⟨⟨below_set hB h2, h2, v1, h6, Kd.R_set hr h5 ht 0 v1⟩, ?_, fun k hk no => ?_, fun k hk => ?_⟩
  · have e1 := hg.size
    simpa [World.setCell] using e1
  · have n1 : k ≠ bo := fun x => no (.inl x)
    have n2 : some k ≠ v.ownBlock := fun x => no (.inr ⟨v, h3, x.symm⟩)
    exact (Below.heap_setCell w1 ⟨bo, 0, none⟩ v1 k n1).trans (hg.block k hk n2)
  · rcases hk with rfl | ⟨u, hu, hk⟩
    · exact .inl (.inl rfl)
    · rw [h6] at hu
      injection hu with hu
      injection hu with hu
      injection hu with hu
      injection hu with hu
      subst hu
      rcases hat with e1 | ⟨b, e1, hb⟩
      · exact .inl (.inr ⟨v, h3, by rw [← e1]; exact hk⟩)
      · rw [e1] at hk
        injection hk with hk
        exact .inr (by omega)
theorem Acc.same (h : Acc d e t w00 bo l W) : Acc d e t w00 bo l W ∧ W.heap.size ≤ W.heap.size ∧ (∀ k, k < W.heap.size → ¬ AccO t bo W k → W.heap[k]? = W.heap[k]?) ∧ (∀ k, AccO t bo W k → AccO t bo W k ∨ W.heap.size ≤ k) := ⟨h, Nat.le_refl _, fun _ _ _ => rfl, fun _ hk => .inl hk⟩
theorem Acc.start (d : Kd α) (e t : TypeId) (h : Below w00.heap.size w00 W) : Acc d e t w00 (W.heap.size + 1) [] ((W.alloc (.cells #[] e (0, 0))).alloc (.cells #[.slice (some ⟨W.heap.size, 0, none⟩) 0 0] t (0, 0))) := by
  have z := h.size
  refine ⟨below_alloc (below_alloc h _) _, by omega, .slice (some ⟨W.heap.size, 0, none⟩) 0 0, ?_, ?_⟩
  · have q := blk_new (W.alloc (.cells #[] e (0, 0))) (.cells #[.slice (some ⟨W.heap.size, 0, none⟩) 0 0] t (0, 0))
    simpa using q
  · exact ⟨fun _ _ => trivial, [], (World.ownsRow_made W #[] 0 z (by simp) (by simp)).alloc _, Reps.none _ _⟩
end



-- NOT PRINTED: function 83 (impl_TurnsOf_1)


-- NOT PRINTED: function 84 (slices_Sort_int_int)


-- NOT PRINTED: function 85 (slices_Compact_int_int)


/-! ### impl_TurnsOf: function 26 (by hand) -/
def impl_TurnsOf.st (l : List Int) (q : Int × Int) : List Int := if q.1.tmod 4 = q.2.tmod 4 then l else l ++ [4 * q.1.tmod 4 + q.2.tmod 4]
set_option maxHeartbeats 4000000 in
set_option maxRecDepth 100000 in
/-- the visitor of TurnsOf: one turn more -/
theorem impl_TurnsOf.clo (a b : Int) (l : List Int) (hl : l.length ≤ 1000000) (bo : Nat) (w00 W : World) (t : Acc (Kd.int .i64) 3 24 w00 bo l W) :
    Calls Try.prog 83 #[.int .i64 a, .int .i64 b, .pointer (some ⟨bo, 0, none⟩)] W fun e W' => e = .returned (.tuple #[]) ∧ Acc (Kd.int .i64) 3 24 w00 bo (impl_TurnsOf.st l (a, b)) W' ∧ W.heap.size ≤ W'.heap.size ∧ (∀ k, k < W.heap.size → ¬ AccO 24 bo W k → W'.heap[k]? = W.heap[k]?) ∧ (∀ k, AccO 24 bo W' k → AccO 24 bo W k ∨ W.heap.size ≤ k) := by
  have hT := t
  obtain ⟨h1, h2, v, h3, h4⟩ := t
  obtain ⟨A, c, rfl, hlc, _⟩ := Kd.R_reads h4
  have e0 : W.cell? ⟨bo, 0, none⟩ = some (.slice A l.length c) := (blk_cell h3 0).trans rfl
  have f0 : W.frozen? ⟨bo, 0, none⟩ = false := blk_frozen h3 0
  have H1 := Aside0.mk h1
  have H2 := Aside0.mk h2
  have H3 := Aside0.mk h3
  have H4 := Aside0.mk h4
  have HT := Aside0.mk hT
  clear h1 h2 h3 h4 hT
  have b1 : -4 < a.tmod 4 ∧ a.tmod 4 < 4 := ⟨by have := Int.lt_tmod_of_pos a (show (0 : Int) < 4 by omega); omega, Int.tmod_lt_of_pos a (by omega)⟩
  have b2 : -4 < b.tmod 4 ∧ b.tmod 4 < 4 := ⟨by have := Int.lt_tmod_of_pos b (show (0 : Int) < 4 by omega); omega, Int.tmod_lt_of_pos b (by omega)⟩
  by_cases q : a.tmod 4 = b.tmod 4
  · have q1 : (a.tmod 4 == b.tmod 4) = true := beq_iff_eq.2 q
    have q2 : (a.tmod 4 != b.tmod 4) = false := bne_eq_false_iff_eq.2 q
    have HQ := Aside0.mk q
    clear q
    go_enter Try.func83, Try.ntmps83
    go_wp2
    go_end0
    refine ⟨rfl, ?_⟩
    unfold impl_TurnsOf.st
    rw [if_pos HQ.out]
    exact Acc.same HT.out
  · have q1 : (a.tmod 4 == b.tmod 4) = false := beq_eq_false_iff_ne.2 q
    have q2 : (a.tmod 4 != b.tmod 4) = true := bne_iff_ne.2 q
    have HQ := Aside0.mk q
    clear q
    go_enter Try.func83, Try.ntmps83
    go_wp2_with ((with_reducible refine gate_builtin (b := .append) (xs := #[.tmp 10, .tmp 17]) rfl ?_); (try (refine gate_guard (by rfl) ?_; dsimp only)); at_builtin; refine Kd.R_append (Kd.int .i64) (w0 := w00) w00.heap.size rfl (.tmp 10) (.tmp 17) 24 3 (.int .i64 0) 8 rfl Try.underlying24 info3 rfl (by decide) (by omega) (.slice A l.length c) l (4 * a.tmod 4 + b.tmod 4) [.int .i64 (4 * a.tmod 4 + b.tmod 4)] (fun _ => True) (fun _ => False) rfl rfl ?aP (fun _ hk => hk.elim) ?aF ?aO ?aB ?aS ?aL ?_; (case aP => exact rfl); (case aB => exact H1.out); (case aF => exact (fun _ _ => trivial)); (case aO => exact H4.out); (case aS => exact H1.out.size); (case aL => omega); intro v1 w1 ho hb hg hat; obtain ⟨A3, c3, rfl⟩ := Kd.R_slice ho; have HP := Aside0.mk (Acc.put hb H2.out H3.out H4.out (by decide) ho hg hat); have e1 : w1.cell? ⟨bo, 0, none⟩ = some (.slice A l.length c) := (blk_cell (blk_grown H3.out hg (Kd.R_ne H4.out H3.out (by decide))) 0).trans rfl; have f1 : w1.frozen? ⟨bo, 0, none⟩ = false := blk_frozen (blk_grown H3.out hg (Kd.R_ne H4.out H3.out (by decide))) 0; clear e0 f0 ho hb hg hat)
    go_end0
    refine ⟨rfl, ?_⟩
    unfold impl_TurnsOf.st
    rw [if_neg HQ.out]
    have z := HP.out
    simp only [List.length_append, List.length_singleton] at z
    exact z
def impl_TurnsOf.f (k : Nat) (a0_0 : Int) (a0_1 : Int) (l0_2 : List Int) (l1_0 : List Int) : Option (List Int) := (impl_TableOk.f k a0_0 a0_1 l0_2 l1_0).bind fun t => (if t = true then ((impl_NodeCount.f a0_0 a0_1).bind fun n => ((impl_adjacent.wk k a0_0 a0_1 l0_2 l1_0 (pall n.toNat 0)).bind fun vs => (if vs.length ≤ 1000000 then some (Lib.compact ((vs.foldl impl_TurnsOf.st []).mergeSort fun x y => decide (x ≤ y))) else none))) else (some []))
theorem impl_TurnsOf.mono : ∀ a0 a1 a2 a3 k, LeO (impl_TurnsOf.f k a0 a1 a2 a3) (impl_TurnsOf.f (k + 1) a0 a1 a2 a3) := by
  intro a0 a1 a2 a3 k
  unfold impl_TurnsOf.f
  exact LeO.bind (impl_TableOk.mono _ _ _ _ _) fun _ => LeO.ite (LeO.bind (LeO.refl _) fun _ => LeO.bind (impl_adjacent.mono_w _ _ _ _ _ _) fun _ => LeO.refl _) (LeO.refl _)
theorem impl_TurnsOf.st_len (vs : List (Int × Int)) : ∀ l : List Int, (vs.foldl impl_TurnsOf.st l).length ≤ l.length + vs.length := by
  induction vs with
  | nil => intro l; simp
  | cons q vs ih =>
    intro l
    have h := ih (impl_TurnsOf.st l q)
    have h2 : (impl_TurnsOf.st l q).length ≤ l.length + 1 := by unfold impl_TurnsOf.st; split <;> simp
    simp only [List.foldl_cons, List.length_cons]
    omega
/-- what TurnsOf's visitor keeps -/
theorem impl_TurnsOf.vis (w00 : World) (bo : Nat) (fin : List Int) : Vis 83 #[.pointer (some ⟨bo, 0, none⟩)] w00 (fun vs W => ∃ l, Acc (Kd.int .i64) 3 24 w00 bo l W ∧ vs.foldl impl_TurnsOf.st l = fin ∧ l.length + vs.length ≤ 1000000) (AccO 24 bo) where
  eg := fun args W => by kernel_rfl
  elder := fun _ _ ⟨_, h, _⟩ => h.1
  lt := fun _ _ k ⟨_, h, _⟩ hk => Acc.lt h k hk
  move := fun _ _ _ ⟨l, h, h2⟩ hb => ⟨⟨l, (Acc.move h hb).1, h2⟩, (Acc.move h hb).2⟩
  step := fun a b vs W ⟨l, h, h2, h3⟩ => by
    simp only [List.length_cons] at h3
    refine (impl_TurnsOf.clo a b l (by omega) bo w00 W h).mono ?_
    rintro e W' ⟨rfl, h4, h5, h6, h7⟩
    have h8 : (impl_TurnsOf.st l (a, b)).length ≤ l.length + 1 := by unfold impl_TurnsOf.st; split <;> simp
    exact ⟨rfl, ⟨_, h4, h2, by omega⟩, h5, h6, h7⟩
set_option maxHeartbeats 4000000 in
set_option maxRecDepth 100000 in
theorem impl_TurnsOf.calls (k : Nat) (a0_0 : Int) (a0_1 : Int) (A0_2 : Option Addr) (c0_2 : Nat) (l0_2 : List Int) (A1_0 : Option Addr) (c1_0 : Nat) (l1_0 : List Int) (r : List Int) (w : World) (hr0_2 : Kd.C (Kd.int .i64) w A0_2 l0_2.length l0_2) (hc0_2 : l0_2.length ≤ c0_2) (hr1_0 : Kd.C (Kd.int .i64) w A1_0 l1_0.length l1_0) (hc1_0 : l1_0.length ≤ c1_0) (h : impl_TurnsOf.f k a0_0 a0_1 l0_2 l1_0 = some r) :
    Calls Try.prog 26 #[.agg #[.int .i64 a0_0, .int .i64 a0_1, .slice A0_2 l0_2.length c0_2], .agg #[.slice A1_0 l1_0.length c1_0]] w fun e w' => ∃ v0_ : Value, e = .returned (v0_) ∧ Kd.R (Kd.int .i64) 3 w' w.heap.size (fun _ => True) v0_ r ∧ Below w.heap.size w w' := by
  have hu1 := Try.underlying34
  have hu2 := Try.underlying36
  have hu3 := Try.underlying32
  have HR := Aside0.mk hr0_2
  have HR1 := Aside0.mk hr1_0
  have HB := Aside0.mk (Below.refl w.heap.size w)
  unfold impl_TurnsOf.f at h
  obtain ⟨t, ht, h⟩ := Option.bind_eq_some_iff.1 h
  have HT := Aside0.mk ht
  have H := Aside0.mk h
  clear hr0_2 hr1_0 ht h
  go_enter Try.func26, Try.ntmps26
  go_upto_region 1 with (first
    | ((with_reducible refine gate_dst (N := 2) rfl ?_); refine box_event ?hg (N := 2) ?hd (cs := #[.int .i64 a0_0, .int .i64 a0_1, .slice A0_2 l0_2.length c0_2]) (t := 34) ?hr ?_; (case hd => rfl); (case hg => rfl); (case hr => first | (go_simp; done) | (go_simp; rfl)); intro gm hg w1 hbox hb; have n1 := Aside0.mk (below_step HB.out hb); have n2 := Aside0.mk hbox; clear HB hb hbox hg; have HB := n1; have BKm := n2; clear n1 n2)
    | ((with_reducible refine gate_dst (N := 3) rfl ?_); refine box_event ?hg (N := 3) ?hd (cs := #[.slice A1_0 l1_0.length c1_0]) (t := 36) ?hr ?_; (case hd => rfl); (case hg => rfl); (case hr => first | (go_simp; done) | (go_simp; rfl)); intro gt hg w2 hbox hb; have n1 := Aside0.mk (below_step HB.out hb); have n2 := Aside0.mk hbox; have n3 := Aside0.mk (blk_below BKm.out hb); clear HB BKm hb hbox hg; have HB := n1; have BKt := n2; have BKm := n3; clear n1 n2 n3))
  (try simp only [Act.put, List.setIfInBounds_toArray, List.set_cons_zero, List.set_cons_succ])
  go_cut [5, 6] (fun v5 v6 wc => ∃ go : Nat, v5 = .pointer (some ⟨go, 0, none⟩) ∧ Aside0 (wc.heap[gm]? = some (.cells #[.int .i64 a0_0, .int .i64 a0_1, .slice A0_2 l0_2.length c0_2] 34 (0, 0))) ∧ Aside0 (wc.heap[gt]? = some (.cells #[.slice A1_0 l1_0.length c1_0] 36 (0, 0))) ∧ Aside0 (Acc (Kd.int .i64) 3 24 w go [] wc))
  case first =>
    go_wp2
    go_meet
    case rel => exact ⟨_, rfl, ⟨blk_alloc (blk_alloc BKm.out _) _⟩, ⟨blk_alloc (blk_alloc BKt.out _) _⟩, ⟨Acc.start _ _ _ HB.out⟩⟩
  clear HB BKm BKt
  obtain ⟨go, rfl, BKm, BKt, HA⟩ := hcut
  obtain ⟨ha1, ha2, va, ha3, ha4⟩ := HA.out
  have e0 : wc.cell? ⟨gm, 0, none⟩ = some (.int .i64 a0_0) := (blk_cell BKm.out 0).trans rfl
  have e1 : wc.cell? ⟨gm, 1, none⟩ = some (.int .i64 a0_1) := (blk_cell BKm.out 1).trans rfl
  have e2 : wc.cell? ⟨gm, 2, none⟩ = some (.slice A0_2 l0_2.length c0_2) := (blk_cell BKm.out 2).trans rfl
  have e3 : wc.cell? ⟨gt, 0, none⟩ = some (.slice A1_0 l1_0.length c1_0) := (blk_cell BKt.out 0).trans rfl
  have HB := Aside0.mk ha1
  clear ha1 ha2 ha3 ha4
  go_wp2_with (fail)
  refine (impl_TableOk.calls k a0_0 a0_1 A0_2 c0_2 l0_2 A1_0 c1_0 l1_0 t _ (Kd.C_below HR.out HB.out) hc0_2 (Kd.C_below HR1.out HB.out) hc1_0 HT.out).mono ?_
  rintro e w3 ⟨rfl, hb⟩
  clear e0 e1 e2 e3
  have n1 := Aside0.mk (Acc.move HA.out hb).1
  have n2 := Aside0.mk (blk_below BKm.out hb)
  have n3 := Aside0.mk (blk_below BKt.out hb)
  clear HA BKm BKt HB hb
  have HA := n1
  have BKm := n2
  have BKt := n3
  clear n1 n2 n3
  obtain ⟨ha1, ha2, va, ha3, ha4⟩ := HA.out
  obtain ⟨Aa, ca, rfl, _, _⟩ := Kd.R_reads ha4
  have e4 : w3.cell? ⟨go, 0, none⟩ = some (.slice Aa 0 ca) := (blk_cell ha3 0).trans rfl
  have HO := Aside0.mk ha4
  have HB := Aside0.mk ha1
  clear ha1 ha2 ha3 ha4
  cases t with
  | false =>
    have h := H.out
    clear H
    rw [if_neg (by decide)] at h
    obtain rfl := Option.some.inj h
    go_wp2
    go_ret
    exact ⟨_, rfl, HO.out, HB.out⟩
  | true =>
    have h := (if_pos rfl).symm.trans H.out
    clear H HO HB
    obtain ⟨n, hn, h⟩ := Option.bind_eq_some_iff.1 h
    obtain ⟨N, rfl, hN⟩ := nodes_nat hn
    rw [Int.toNat_natCast] at h
    obtain ⟨vs, hvs, h⟩ := Option.bind_eq_some_iff.1 h
    by_cases hl : vs.length ≤ 1000000
    · rw [if_pos hl] at h
      have H6 := Aside0.mk (Option.some.inj h)
      have HN := Aside0.mk hn
      have HVS := Aside0.mk hvs
      clear h hn hvs
      have e0 : w3.cell? ⟨gm, 0, none⟩ = some (.int .i64 a0_0) := (blk_cell BKm.out 0).trans rfl
      have e1 : w3.cell? ⟨gm, 1, none⟩ = some (.int .i64 a0_1) := (blk_cell BKm.out 1).trans rfl
      have e2 : w3.cell? ⟨gm, 2, none⟩ = some (.slice A0_2 l0_2.length c0_2) := (blk_cell BKm.out 2).trans rfl
      have e3 : w3.cell? ⟨gt, 0, none⟩ = some (.slice A1_0 l1_0.length c1_0) := (blk_cell BKt.out 0).trans rfl
      go_wp2_with (fail)
      refine (impl_adjacent.abs k a0_0 a0_1 A0_2 c0_2 l0_2 A1_0 c1_0 l1_0 N HN.out hN vs HVS.out 83 #[.pointer (some ⟨go, 0, none⟩)] w _ _ _ (impl_TurnsOf.vis w go (vs.foldl impl_TurnsOf.st [])) ⟨[], HA.out, rfl, by simpa using hl⟩ HR.out hc0_2 HR1.out hc1_0).mono ?_
      rintro e w4 ⟨rfl, F, hacc, hfin, _⟩
      clear e0 e1 e2 e3 e4 HA BKm BKt
      simp only [List.foldl_nil] at hfin
      have hF : F.length ≤ 1000000 := by
        have := impl_TurnsOf.st_len vs []
        rw [hfin]
        simp only [List.length_nil] at this
        omega
      rw [← hfin] at H6
      clear hfin HVS HN hl hN
      obtain ⟨h1, h2, v, h3, h4⟩ := hacc
      obtain ⟨A, c, rfl, hc, _⟩ := Kd.R_reads h4
      have e0 : w4.cell? ⟨go, 0, none⟩ = some (.slice A F.length c) := (blk_cell h3 0).trans rfl
      have HB := Aside0.mk h1
      have HO := Aside0.mk h4
      have H3 := Aside0.mk h3
      clear h1 h3 h4
      rcases Nat.eq_zero_or_pos F.length with z | z
      · obtain rfl := List.length_eq_zero_iff.1 z
        clear z
        go_wp2_with (first | (go_at_call 84; refine (Try.slices_Sort_int_none _ _ _).mono ?_; rintro e w5 ⟨rfl, rfl⟩) | (go_at_call 85; refine (Try.slices_Compact_int_empty _ _ _).mono ?_; rintro e w6 ⟨rfl, rfl⟩))
        go_ret
        refine ⟨_, rfl, ?_, HB.out⟩
        have q := H6.out
        rw [List.mergeSort_nil] at q
        have q2 : ([] : List Int) = r := q
        subst q2
        exact HO.out
      · have own : Aside0 (w4.ownsRow w.heap.size 3 1 (.slice A F.length c) F.length (F.map (Value.int .i64))) := ⟨Kd.own_of_R HO.out⟩
        obtain ⟨g, _, hA, _⟩ := Srt.own_slice own.out z
        subst hA
        obtain ⟨hh, hlt, hbg⟩ := Srt.holds1 (Value.int .i64) own.out z
        have hne := Kd.R_ne HO.out H3.out (by decide)
        have hge : go ≠ g := fun x => hne (by rw [x]; rfl)
        have HH := Aside0.mk hh
        have HG := Aside0.mk hge
        obtain ⟨S, hS⟩ : ∃ S, S = F.mergeSort fun x y => decide (x ≤ y) := ⟨_, rfl⟩
        have hSl : S.length = F.length := by rw [hS, List.length_mergeSort]
        have HS := Aside0.mk hS
        have HSl := Aside0.mk hSl
        rw [← hS] at H6
        clear hh hne hge hS hSl
        go_wp2_with (fail)
        ((with_reducible refine (Try.slices_Sort_int g 0 c F _ HH.out hlt (by omega)).mono ?_))
        rw [← HS.out]
        rintro e w5 ⟨rfl, q, os, hw⟩
        obtain ⟨o5, g5⟩ := Srt.put1 (Value.int .i64) own.out z HSl.out q os
        rw [← hw] at o5 g5
        have e5 : w5.cell? ⟨go, 0, none⟩ = some (.slice (some ⟨g, 0, none⟩) S.length c) := by rw [HSl.out]; exact (blk_cell (blk_grown H3.out g5 (fun x => HG.out (by injection x))) 0).trans rfl
        have H5 := Aside0.mk (blk_grown H3.out g5 (fun x => HG.out (by injection x)))
        have B5 := Aside0.mk (Below.grown HB.out g5 HB.out.size (fun k hk => by injection hk with hk; omega))
        have own5 := Aside0.mk o5
        have z5 : 0 < S.length := by rw [HSl.out]; exact z
        have z6 : S.length ≤ 1000000 := by rw [HSl.out]; exact hF
        have z7 : S.length ≤ c := by rw [HSl.out]; exact hc
        clear z hF hc
        have hh := Srt.holds1 (Value.int .i64) own5.out z5
        have HH5 := Aside0.mk hh.1
        clear e0 hw o5 g5 HH own HO H3 HB hh
        go_wp2_with (fail)
        ((with_reducible refine (Try.slices_Compact_int g 0 c S _ HH5.out (by omega) (by omega)).mono ?_))
        rintro e w6 ⟨rfl, q2, hw⟩
        obtain ⟨o6, g6⟩ := Srt.put1 (Value.int .i64) (ys := Lib.compact S ++ List.replicate (S.length - (Lib.compact S).length) 0) own5.out z5 (by have := Srt.compact_len S; simp; omega) q2 #[]
        rw [Go.Sort.grow_empty, ← hw] at o6 g6
        have B6 := Aside0.mk (Below.grown B5.out g6 B5.out.size (fun k hk => by injection hk with hk; omega))
        have o7 := Aside0.mk (Srt.cut1 (Value.int .i64) o6 (by have := Srt.compact_len S; simp; omega))
        clear hw o6 g6 e5 HH5
        rw [H6.out] at o7 ⊢
        go_wp2_with (fail)
        go_ret
        exact ⟨_, rfl, Kd.R_of_own o7.out (fun _ _ => trivial), B6.out⟩
    · rw [if_neg hl] at h
      exact absurd h (by simp)



-- NOT PRINTED: function 75 (slices_ContainsFunc_int_int)


-- NOT PRINTED: function 76 (impl_AllowsTurns_1)


end Go.Proofs.Ytmfkgnfjjfnfmaa.XU
