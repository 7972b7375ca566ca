/- What is proved: contracts of functions of the program (each: where its Lean function answers, the call returns that answer); written by a program of this session. -/
import Derived.Test.YtmfkgnfjjfnfmaaXA0
import Derived.Test.YtmfkgnfjjfnfmaaXA4
namespace Go.Proofs.Ytmfkgnfjjfnfmaa.XA
open Go.RowKit Go.Proofs.YtmfkgnfjjfnfmaaW.PrintWords Go.Proofs.YtmfkgnfjjfnfmaaW.PrintLast Go.Proofs.YtmfkgnfjjfnfmaaW.PrintMore
attribute [local go_sem] max2_int min2_int max_two min_two max_three min_three max_four min_four   -- for this text's walks alone
set_option linter.unusedVariables false
set_option linter.unusedSimpArgs false

/-! ### slices_Index_int_int: function 126 -/
def slices_Index_int_int.l0 : Nat → List Int → Int → Int → Int → Option (Int)
  | 0, _, _, _, _ => none
  | k + 1, x0, x1, x7, x8 => if x8 < x7 then (if 0 ≤ x8 then (if x8 < (x0.length : Int) then (if x1 = (rd x0 x8) then (some x8) else (slices_Index_int_int.l0 k x0 x1 x7 (wrap64 (x8 + 1)))) else (none)) else (none)) else (some (-1))
def slices_Index_int_int.f (k : Nat) (l0 : List Int) (a1 : Int) : Option (Int) := slices_Index_int_int.l0 k l0 a1 (l0.length : Int) 0
theorem slices_Index_int_int.mono_l : ∀ k, (∀ y0 y1 y2 y3, LeO (slices_Index_int_int.l0 k y0 y1 y2 y3) (slices_Index_int_int.l0 (k + 1) y0 y1 y2 y3))
  | 0 => fun _ _ _ _ r h => by simp [slices_Index_int_int.l0] at h
  | k + 1 => by
    have ih0 := slices_Index_int_int.mono_l k
    · intro y0 y1 y2 y3
      unfold slices_Index_int_int.l0
      repeat' first
      | (with_reducible exact ih0 _ _ _ _)
      | (with_reducible exact LeO.refl _)
      | (with_reducible exact LeO.none _)
      | (with_reducible refine LeO.ite ?_ ?_)
      | (with_reducible refine LeO.bind ?_ (fun _ => ?_))
      | exact ih0 _ _ _ _
      | exact LeO.none _
      | refine LeO.ite ?_ ?_
      | refine LeO.bind ?_ (fun _ => ?_)
theorem slices_Index_int_int.mono : ∀ a0 a1 k, LeO (slices_Index_int_int.f k a0 a1) (slices_Index_int_int.f (k + 1) a0 a1) := by
  intro a0 a1 k
  have ih0 := slices_Index_int_int.mono_l k
  unfold slices_Index_int_int.f
  repeat' first
      | (with_reducible exact ih0 _ _ _ _)
      | (with_reducible exact LeO.refl _)
      | (with_reducible exact LeO.none _)
      | (with_reducible refine LeO.ite ?_ ?_)
      | (with_reducible refine LeO.bind ?_ (fun _ => ?_))
      | exact ih0 _ _ _ _
      | exact LeO.none _
      | refine LeO.ite ?_ ?_
      | refine LeO.bind ?_ (fun _ => ?_)
set_option maxHeartbeats 8000000 in
set_option maxRecDepth 100000 in
theorem slices_Index_int_int.calls (k : Nat) (A0 : Option Addr) (c0 : Nat) (l0 : List Int) (a1 : Int) (r : Int) (w : World) (hr0 : Kd.C (Kd.int .i64) w A0 l0.length l0) (hc0 : l0.length ≤ c0) (h : slices_Index_int_int.f k l0 a1 = some r) :
    Calls Try.prog 126 #[.slice A0 l0.length c0, .int .i64 a1] w fun e w' => e = .returned (.int .i64 r) ∧ Drawn0 w w' := by
  have HR0 := Aside0.mk hr0
  have HC0 := Aside0.mk hc0
  clear hr0 hc0
  have H : (slices_Index_int_int.l0 k l0 a1 (l0.length : Int) 0) = some r := h
  clear h
  have H' := Aside0.mk H
  clear H
  go_enter Try.func126, Try.ntmps126
  go_wp2
  go_loopg [8] k (fun kq v8 w' => ∃ (x8_1 : Int), v8 = .int .i64 x8_1 ∧ Aside0 (slices_Index_int_int.l0 kq l0 a1 (l0.length : Int) x8_1 = some r) ∧ Aside0 (kq ≤ k) ∧ Drawn0 w w')
  case atStart => exact ⟨(0), (by first | rfl | (simp; done) | (simp [*]; done)), H', ⟨Nat.le_refl _⟩, by repeat (first | exact Drawn0.refl _ | apply Drawn0.step)⟩
  case round =>
    clear H'
    try clear c1
    try clear p2
    obtain ⟨x8_1, rfl, HA, HK1, ⟨m1, rfl⟩⟩ := hrel
    cases gk with
    | zero => exact absurd HA.out (by simp [slices_Index_int_int.l0])
    | succ k1 =>
      have H := HA.out
      clear HA
      simp only [slices_Index_int_int.l0] at H
      by_cases c3 : x8_1 < (l0.length : Int)
      · rw [if_pos c3] at H
        have c3b0 : decide (x8_1 < (l0.length : Int)) = true := decide_eq_true c3
        clear c3
        by_cases c4 : 0 ≤ x8_1
        · rw [if_pos c4] at H
          have c4b0 : decide (0 ≤ x8_1) = true := decide_eq_true c4
          clear c4
          by_cases c5 : x8_1 < (l0.length : Int)
          · rw [if_pos c5] at H
            have c5b0 : decide (x8_1 < (l0.length : Int)) = true := decide_eq_true c5
            clear c5
            by_cases c6 : a1 = (rd l0 x8_1)
            · rw [if_pos c6] at H
              have c6b0 : (a1 == (rd l0 x8_1)) = true := beq_iff_eq.mpr c6
              have c6b1 : (a1 != (rd l0 x8_1)) = false := bne_eq_false_iff_eq.mpr c6
              clear c6
              obtain rfl := Option.some.inj H
              have p268 : 0 ≤ (x8_1 : Int) := of_decide_eq_true (by first | (with_reducible assumption) | assumption)
              have q268 : x8_1 < (l0.length : Int) := of_decide_eq_true (by first | (with_reducible assumption) | assumption)
              obtain ⟨ad268, e268, hx268_0⟩ := Kd.at_int HR0.out x8_1 p268 q268
              cases e268
              replace p268 := eq_true p268
              replace q268 := eq_true q268
              go_wp2
              go_ret
              exact ⟨by first | rfl | (simp; done) | (simp [*]; done), by repeat (first | exact Drawn0.refl _ | apply Drawn0.step)⟩
            · rw [if_neg c6] at H
              have c6b0 : (a1 == (rd l0 x8_1)) = false := beq_eq_false_iff_ne.mpr c6
              have c6b1 : (a1 != (rd l0 x8_1)) = true := bne_iff_ne.mpr c6
              have H' := Aside0.mk H
              clear H
              have p268 : 0 ≤ (x8_1 : Int) := of_decide_eq_true (by first | (with_reducible assumption) | assumption)
              have q268 : x8_1 < (l0.length : Int) := of_decide_eq_true (by first | (with_reducible assumption) | assumption)
              obtain ⟨ad268, e268, hx268_0⟩ := Kd.at_int HR0.out x8_1 p268 q268
              cases e268
              replace p268 := eq_true p268
              replace q268 := eq_true q268
              go_wp2
              go_roundg k1
              case measure => have := HK1.out; omega
              case rel => exact ⟨(wrap64 (x8_1 + 1)), (by first | rfl | (simp; done) | (simp [*]; done)), H', ⟨by have := HK1.out; omega⟩, by repeat (first | exact Drawn0.refl _ | apply Drawn0.step)⟩
          · rw [if_neg c5] at H
            exact absurd H (by simp)
        · rw [if_neg c4] at H
          exact absurd H (by simp)
      · rw [if_neg c3] at H
        have c3b0 : decide (x8_1 < (l0.length : Int)) = false := decide_eq_false c3
        clear c3
        obtain rfl := Option.some.inj H
        go_wp2
        go_ret
        exact ⟨by first | rfl | (simp; done) | (simp [*]; done), by repeat (first | exact Drawn0.refl _ | apply Drawn0.step)⟩


/-! ### slices_Contains_int_int: function 77 -/
def slices_Contains_int_int.f (k : Nat) (l0 : List Int) (a1 : Int) : Option (Bool) := (slices_Index_int_int.f k l0 a1).bind fun t269 => (some (decide (t269 ≥ 0)))
theorem slices_Contains_int_int.mono : ∀ a0 a1 k, LeO (slices_Contains_int_int.f k a0 a1) (slices_Contains_int_int.f (k + 1) a0 a1) := by
  intro a0 a1 k
  unfold slices_Contains_int_int.f
  repeat' first
      | (with_reducible exact slices_Index_int_int.mono _ _ _)
      | (with_reducible exact LeO.refl _)
      | (with_reducible exact LeO.none _)
      | (with_reducible refine LeO.ite ?_ ?_)
      | (with_reducible refine LeO.bind ?_ (fun _ => ?_))
      | exact slices_Index_int_int.mono _ _ _
      | exact LeO.none _
      | refine LeO.ite ?_ ?_
      | refine LeO.bind ?_ (fun _ => ?_)
set_option maxHeartbeats 8000000 in
set_option maxRecDepth 100000 in
theorem slices_Contains_int_int.calls (k : Nat) (A0 : Option Addr) (c0 : Nat) (l0 : List Int) (a1 : Int) (r : Bool) (w : World) (hr0 : Kd.C (Kd.int .i64) w A0 l0.length l0) (hc0 : l0.length ≤ c0) (h : slices_Contains_int_int.f k l0 a1 = some r) :
    Calls Try.prog 77 #[.slice A0 l0.length c0, .int .i64 a1] w fun e w' => e = .returned (.bool r) ∧ Drawn0 w w' := by
  have HR0 := Aside0.mk hr0
  have HC0 := Aside0.mk hc0
  clear hr0 hc0
  have H : ((slices_Index_int_int.f k l0 a1).bind fun t269 => (some (decide (t269 ≥ 0)))) = some r := h
  clear h
  replace H := Option.bind_eq_some_iff.mp H
  obtain ⟨t269, A30, H⟩ := H
  replace H : (some (decide (t269 ≥ 0))) = some r := H
  have A3 := Aside0.mk A30
  clear A30
  obtain rfl := Option.some.inj H
  go_enter Try.func77, Try.ntmps77
  go_wp2_with (first | ((with_reducible refine gate_callee (f := 126) rfl ?_); refine goesL_ (some 7) rfl rfl Try.func126 (by kernel_rfl) rfl #[.slice A0 l0.length c0, .int .i64 a1] rfl (by (try simp only [List.map_toArray, List.map_cons, List.map_nil]); first | done | rfl | (simp only [List.length_drop, List.length_take]; rfl)) ?_; (with_reducible refine (slices_Index_int_int.calls k _ _ l0 a1 t269 _ ?side1 ?side2 A3.out).mono ?_); (case side1 => repeat (first | exact HR0.out | (with_reducible refine Kd.C_alloc ?_ _) | (with_reducible refine Kd.C_drewN ?_ _) | (with_reducible refine Kd.C_drew ?_))); (case side2 => exact HC0.out); rintro e w' ⟨rfl, ⟨nd, rfl⟩⟩; refine ⟨_, rfl, ?_⟩))
  go_ret
  exact ⟨by first | rfl | (simp; done) | (simp [*]; done), by repeat (first | exact Drawn0.refl _ | apply Drawn0.step)⟩


/-! ### impl_HasChannel: function 110 -/
def impl_HasChannel.f (k : Nat) (a0_0 : Int) (a0_1 : Int) (l0_2 : List Int) (a1 : Int) : Option (Bool) := (impl_MeshOk.f k a0_0 a0_1 l0_2).bind fun t271 => (if t271 = true then ((impl_leads.f a0_0 a0_1 a1).bind fun t272 => (if t272 = true then ((slices_Contains_int_int.f k l0_2 a1).bind fun t273 => (some (!t273))) else (some false))) else (some false))
theorem impl_HasChannel.mono : ∀ a0 a1 a2 a3 k, LeO (impl_HasChannel.f k a0 a1 a2 a3) (impl_HasChannel.f (k + 1) a0 a1 a2 a3) := by
  intro a0 a1 a2 a3 k
  unfold impl_HasChannel.f
  repeat' first
      | (with_reducible exact impl_MeshOk.mono _ _ _ _)
      | (with_reducible exact slices_Contains_int_int.mono _ _ _)
      | (with_reducible exact LeO.refl _)
      | (with_reducible exact LeO.none _)
      | (with_reducible refine LeO.ite ?_ ?_)
      | (with_reducible refine LeO.bind ?_ (fun _ => ?_))
      | exact impl_MeshOk.mono _ _ _ _
      | exact slices_Contains_int_int.mono _ _ _
      | exact LeO.none _
      | refine LeO.ite ?_ ?_
      | refine LeO.bind ?_ (fun _ => ?_)
set_option maxHeartbeats 8000000 in
set_option maxRecDepth 100000 in
theorem impl_HasChannel.calls (k : Nat) (a0_0 : Int) (a0_1 : Int) (A0_2 : Option Addr) (c0_2 : Nat) (l0_2 : List Int) (a1 : Int) (r : Bool) (w : World) (hr0_2 : Kd.C (Kd.int .i64) w A0_2 l0_2.length l0_2) (hc0_2 : l0_2.length ≤ c0_2) (h : impl_HasChannel.f k a0_0 a0_1 l0_2 a1 = some r) :
    Calls Try.prog 110 #[.agg #[.int .i64 a0_0, .int .i64 a0_1, .slice A0_2 l0_2.length c0_2], .int .i64 a1] w fun e w' => e = .returned (.bool r) ∧ Below w.heap.size w w' := by
  have hu34 := Try.underlying34
  have hu32 := Try.underlying32
  have HR0_2 := Aside0.mk hr0_2
  have HC0_2 := Aside0.mk hc0_2
  clear hr0_2 hc0_2
  have HB := Aside0.mk (Below.refl w.heap.size w)
  have H : ((impl_MeshOk.f k a0_0 a0_1 l0_2).bind fun t271 => (if t271 = true then ((impl_leads.f a0_0 a0_1 a1).bind fun t272 => (if t272 = true then ((slices_Contains_int_int.f k l0_2 a1).bind fun t273 => (some (!t273))) else (some false))) else (some false))) = some r := h
  clear h
  replace H := Option.bind_eq_some_iff.mp H
  obtain ⟨t271, A30, H⟩ := H
  replace H : (if t271 = true then ((impl_leads.f a0_0 a0_1 a1).bind fun t272 => (if t272 = true then ((slices_Contains_int_int.f k l0_2 a1).bind fun t273 => (some (!t273))) else (some false))) else (some false)) = some r := H
  have A3 := Aside0.mk A30
  clear A30
  by_cases c4 : t271 = true
  · subst c4
    have H1 : ((impl_leads.f a0_0 a0_1 a1).bind fun t272 => (if t272 = true then ((slices_Contains_int_int.f k l0_2 a1).bind fun t273 => (some (!t273))) else (some false))) = some r := by rw [if_pos rfl] at H; exact H
    clear H
    have H := H1
    clear H1
    replace H := Option.bind_eq_some_iff.mp H
    obtain ⟨t272, A50, H⟩ := H
    replace H : (if t272 = true then ((slices_Contains_int_int.f k l0_2 a1).bind fun t273 => (some (!t273))) else (some false)) = some r := H
    have A5 := Aside0.mk A50
    clear A50
    by_cases c6 : t272 = true
    · subst c6
      have H1 : ((slices_Contains_int_int.f k l0_2 a1).bind fun t273 => (some (!t273))) = some r := by rw [if_pos rfl] at H; exact H
      clear H
      have H := H1
      clear H1
      replace H := Option.bind_eq_some_iff.mp H
      obtain ⟨t273, A70, H⟩ := H
      replace H : (some (!t273)) = some r := H
      have A7 := Aside0.mk A70
      clear A70
      obtain rfl := Option.some.inj H
      go_enter Try.func110, Try.ntmps110
      go_wp2_with (first | ((with_reducible refine gate_dst (N := 2) rfl ?_); refine box_event ?hg (N := 2) ?hd (cs := #[.int .i64 a0_0, .int .i64 a0_1, .slice A0_2 l0_2.length c0_2]) (t := 34) ?hr ?_; (case hd => rfl); (case hg => rfl); (case hr => first | (go_simp; done) | (go_simp; rfl)); intro gb270 hg w8 hbox hb; have n0_ := Aside0.mk (below_step (by repeat (first | (with_reducible first | exact HB.out | apply below_alloc | apply pw_below_drewN | apply below_drew1) | exact HB.out)) hb); have n1_ := Aside0.mk (hbox); have n2_ := Aside0.mk ((by rw [hg]; exact (below_size (by repeat (first | (with_reducible first | exact HB.out | apply below_alloc | apply pw_below_drewN | apply below_drew1) | exact HB.out))) : w.heap.size ≤ gb270)); have n3_ := Aside0.mk ((by rw [hg]; exact (below_size (by repeat (first | (with_reducible first | exact HB.out | apply below_alloc | apply pw_below_drewN | apply below_drew1) | exact HB.out))) : w.heap.size ≤ gb270)); clear HB; have HB := n0_; have BK270 := n1_; have GW270 := n2_; have GE270 := n3_; clear n0_ n1_ n2_ n3_; clear hb hbox hg; have hcz9_0 : w8.cell? ⟨gb270, 0, none⟩ = some (.int .i64 a0_0) := (blk_cell BK270.out 0).trans rfl; have hcz9_1 : w8.cell? ⟨gb270, 1, none⟩ = some (.int .i64 a0_1) := (blk_cell BK270.out 1).trans rfl; have hcz9_2 : w8.cell? ⟨gb270, 2, none⟩ = some (.slice A0_2 l0_2.length c0_2) := (blk_cell BK270.out 2).trans rfl; have hfz9_0 := blk_frozen BK270.out 0; have hfz9_1 := blk_frozen BK270.out 1; have hfz9_2 := blk_frozen BK270.out 2) | ((with_reducible refine gate_callee (f := 101) rfl ?_); refine goesL_ (some 6) rfl rfl Try.func101 (by kernel_rfl) rfl #[.agg #[.int .i64 a0_0, .int .i64 a0_1, .slice A0_2 l0_2.length c0_2]] rfl (by (try simp only [List.map_toArray, List.map_cons, List.map_nil]); first | done | rfl | (simp only [List.length_drop, List.length_take]; rfl)) ?_; (with_reducible refine (impl_MeshOk.calls k a0_0 a0_1 _ _ l0_2 true _ ?side1 ?side2 A3.out).mono ?_); (case side1 => repeat (first | exact (Kd.C_below HR0_2.out HB.out) | (with_reducible refine Kd.C_alloc ?_ _) | (with_reducible refine Kd.C_drewN ?_ _) | (with_reducible refine Kd.C_drew ?_))); (case side2 => exact HC0_2.out); rintro e w10 ⟨rfl, hb⟩; refine ⟨_, rfl, ?_⟩; have n0_ := Aside0.mk (blk_below (g := gb270) (o := .cells #[.int .i64 a0_0, .int .i64 a0_1, .slice A0_2 l0_2.length c0_2] 34 (0, 0)) (by (with_reducible repeat (first | refine blk_drewN ?_ _ | refine blk_drew ?_ | refine blk_alloc ?_ _)); exact BK270.out) hb); have n1_ := Aside0.mk (below_step (by repeat (first | (with_reducible first | exact HB.out | apply below_alloc | apply pw_below_drewN | apply below_drew1 | refine below_set ?_ GE270.out) | exact HB.out)) hb); clear BK270; clear HB; have BK270 := n0_; have HB := n1_; clear n0_ n1_; (try clear hb); (try clear hb2); (try clear hk); (try clear hi); have hcz11_0 : w10.cell? ⟨gb270, 0, none⟩ = some (.int .i64 a0_0) := (blk_cell BK270.out 0).trans rfl; have hcz11_1 : w10.cell? ⟨gb270, 1, none⟩ = some (.int .i64 a0_1) := (blk_cell BK270.out 1).trans rfl; have hcz11_2 : w10.cell? ⟨gb270, 2, none⟩ = some (.slice A0_2 l0_2.length c0_2) := (blk_cell BK270.out 2).trans rfl; have hfz11_0 := blk_frozen BK270.out 0; have hfz11_1 := blk_frozen BK270.out 1; have hfz11_2 := blk_frozen BK270.out 2) | (go_at_call 142; (with_reducible refine (impl_leads.calls a0_0 a0_1 a1 true _ A5.out).mono ?_); rintro e w12 ⟨rfl, hb⟩; have n0_ := Aside0.mk (blk_below (g := gb270) (o := .cells #[.int .i64 a0_0, .int .i64 a0_1, .slice A0_2 l0_2.length c0_2] 34 (0, 0)) (by (with_reducible repeat (first | refine blk_drewN ?_ _ | refine blk_drew ?_ | refine blk_alloc ?_ _)); exact BK270.out) hb); have n1_ := Aside0.mk (below_step (by repeat (first | (with_reducible first | exact HB.out | apply below_alloc | apply pw_below_drewN | apply below_drew1 | refine below_set ?_ GE270.out) | exact HB.out)) hb); clear BK270; clear HB; have BK270 := n0_; have HB := n1_; clear n0_ n1_; (try clear hb); (try clear hb2); (try clear hk); (try clear hi); have hcz13_0 : w12.cell? ⟨gb270, 0, none⟩ = some (.int .i64 a0_0) := (blk_cell BK270.out 0).trans rfl; have hcz13_1 : w12.cell? ⟨gb270, 1, none⟩ = some (.int .i64 a0_1) := (blk_cell BK270.out 1).trans rfl; have hcz13_2 : w12.cell? ⟨gb270, 2, none⟩ = some (.slice A0_2 l0_2.length c0_2) := (blk_cell BK270.out 2).trans rfl; have hfz13_0 := blk_frozen BK270.out 0; have hfz13_1 := blk_frozen BK270.out 1; have hfz13_2 := blk_frozen BK270.out 2) | (go_at_call 77; (with_reducible refine (slices_Contains_int_int.calls k _ _ l0_2 a1 t273 _ ?side1 ?side2 A7.out).mono ?_); (case side1 => repeat (first | exact (Kd.C_below HR0_2.out HB.out) | (with_reducible refine Kd.C_alloc ?_ _) | (with_reducible refine Kd.C_drewN ?_ _) | (with_reducible refine Kd.C_drew ?_))); (case side2 => exact HC0_2.out); rintro e w' ⟨rfl, ⟨nd, rfl⟩⟩))
      go_ret
      exact ⟨by first | rfl | (simp [errW_none, errW_some] <;> rfl) | (simp [*, errW_none, errW_some] <;> rfl), by repeat (first | (with_reducible first | exact HB.out | apply below_alloc | apply pw_below_drewN | apply below_drew1 | refine below_set ?_ GE270.out) | exact HB.out)⟩
    · replace c6 := Bool.eq_false_iff.mpr c6
      subst c6
      have H1 : (some false) = some r := by rw [if_neg (show ¬ (false = true) by decide)] at H; exact H
      clear H
      have H := H1
      clear H1
      obtain rfl := Option.some.inj H
      go_enter Try.func110, Try.ntmps110
      go_wp2_with (first | ((with_reducible refine gate_dst (N := 2) rfl ?_); refine box_event ?hg (N := 2) ?hd (cs := #[.int .i64 a0_0, .int .i64 a0_1, .slice A0_2 l0_2.length c0_2]) (t := 34) ?hr ?_; (case hd => rfl); (case hg => rfl); (case hr => first | (go_simp; done) | (go_simp; rfl)); intro gb270 hg w14 hbox hb; have n0_ := Aside0.mk (below_step (by repeat (first | (with_reducible first | exact HB.out | apply below_alloc | apply pw_below_drewN | apply below_drew1) | exact HB.out)) hb); have n1_ := Aside0.mk (hbox); have n2_ := Aside0.mk ((by rw [hg]; exact (below_size (by repeat (first | (with_reducible first | exact HB.out | apply below_alloc | apply pw_below_drewN | apply below_drew1) | exact HB.out))) : w.heap.size ≤ gb270)); have n3_ := Aside0.mk ((by rw [hg]; exact (below_size (by repeat (first | (with_reducible first | exact HB.out | apply below_alloc | apply pw_below_drewN | apply below_drew1) | exact HB.out))) : w.heap.size ≤ gb270)); clear HB; have HB := n0_; have BK270 := n1_; have GW270 := n2_; have GE270 := n3_; clear n0_ n1_ n2_ n3_; clear hb hbox hg; have hcz15_0 : w14.cell? ⟨gb270, 0, none⟩ = some (.int .i64 a0_0) := (blk_cell BK270.out 0).trans rfl; have hcz15_1 : w14.cell? ⟨gb270, 1, none⟩ = some (.int .i64 a0_1) := (blk_cell BK270.out 1).trans rfl; have hcz15_2 : w14.cell? ⟨gb270, 2, none⟩ = some (.slice A0_2 l0_2.length c0_2) := (blk_cell BK270.out 2).trans rfl; have hfz15_0 := blk_frozen BK270.out 0; have hfz15_1 := blk_frozen BK270.out 1; have hfz15_2 := blk_frozen BK270.out 2) | ((with_reducible refine gate_callee (f := 101) rfl ?_); refine goesL_ (some 6) rfl rfl Try.func101 (by kernel_rfl) rfl #[.agg #[.int .i64 a0_0, .int .i64 a0_1, .slice A0_2 l0_2.length c0_2]] rfl (by (try simp only [List.map_toArray, List.map_cons, List.map_nil]); first | done | rfl | (simp only [List.length_drop, List.length_take]; rfl)) ?_; (with_reducible refine (impl_MeshOk.calls k a0_0 a0_1 _ _ l0_2 true _ ?side1 ?side2 A3.out).mono ?_); (case side1 => repeat (first | exact (Kd.C_below HR0_2.out HB.out) | (with_reducible refine Kd.C_alloc ?_ _) | (with_reducible refine Kd.C_drewN ?_ _) | (with_reducible refine Kd.C_drew ?_))); (case side2 => exact HC0_2.out); rintro e w16 ⟨rfl, hb⟩; refine ⟨_, rfl, ?_⟩; have n0_ := Aside0.mk (blk_below (g := gb270) (o := .cells #[.int .i64 a0_0, .int .i64 a0_1, .slice A0_2 l0_2.length c0_2] 34 (0, 0)) (by (with_reducible repeat (first | refine blk_drewN ?_ _ | refine blk_drew ?_ | refine blk_alloc ?_ _)); exact BK270.out) hb); have n1_ := Aside0.mk (below_step (by repeat (first | (with_reducible first | exact HB.out | apply below_alloc | apply pw_below_drewN | apply below_drew1 | refine below_set ?_ GE270.out) | exact HB.out)) hb); clear BK270; clear HB; have BK270 := n0_; have HB := n1_; clear n0_ n1_; (try clear hb); (try clear hb2); (try clear hk); (try clear hi); have hcz17_0 : w16.cell? ⟨gb270, 0, none⟩ = some (.int .i64 a0_0) := (blk_cell BK270.out 0).trans rfl; have hcz17_1 : w16.cell? ⟨gb270, 1, none⟩ = some (.int .i64 a0_1) := (blk_cell BK270.out 1).trans rfl; have hcz17_2 : w16.cell? ⟨gb270, 2, none⟩ = some (.slice A0_2 l0_2.length c0_2) := (blk_cell BK270.out 2).trans rfl; have hfz17_0 := blk_frozen BK270.out 0; have hfz17_1 := blk_frozen BK270.out 1; have hfz17_2 := blk_frozen BK270.out 2) | (go_at_call 142; (with_reducible refine (impl_leads.calls a0_0 a0_1 a1 false _ A5.out).mono ?_); rintro e w18 ⟨rfl, hb⟩; have n0_ := Aside0.mk (blk_below (g := gb270) (o := .cells #[.int .i64 a0_0, .int .i64 a0_1, .slice A0_2 l0_2.length c0_2] 34 (0, 0)) (by (with_reducible repeat (first | refine blk_drewN ?_ _ | refine blk_drew ?_ | refine blk_alloc ?_ _)); exact BK270.out) hb); have n1_ := Aside0.mk (below_step (by repeat (first | (with_reducible first | exact HB.out | apply below_alloc | apply pw_below_drewN | apply below_drew1 | refine below_set ?_ GE270.out) | exact HB.out)) hb); clear BK270; clear HB; have BK270 := n0_; have HB := n1_; clear n0_ n1_; (try clear hb); (try clear hb2); (try clear hk); (try clear hi)))
      go_ret
      exact ⟨by first | rfl | (simp [errW_none, errW_some] <;> rfl) | (simp [*, errW_none, errW_some] <;> rfl), by repeat (first | (with_reducible first | exact HB.out | apply below_alloc | apply pw_below_drewN | apply below_drew1 | refine below_set ?_ GE270.out) | exact HB.out)⟩
  · replace c4 := Bool.eq_false_iff.mpr c4
    subst c4
    have H1 : (some false) = some r := by rw [if_neg (show ¬ (false = true) by decide)] at H; exact H
    clear H
    have H := H1
    clear H1
    obtain rfl := Option.some.inj H
    go_enter Try.func110, Try.ntmps110
    go_wp2_with (first | ((with_reducible refine gate_dst (N := 2) rfl ?_); refine box_event ?hg (N := 2) ?hd (cs := #[.int .i64 a0_0, .int .i64 a0_1, .slice A0_2 l0_2.length c0_2]) (t := 34) ?hr ?_; (case hd => rfl); (case hg => rfl); (case hr => first | (go_simp; done) | (go_simp; rfl)); intro gb270 hg w19 hbox hb; have n0_ := Aside0.mk (below_step (by repeat (first | (with_reducible first | exact HB.out | apply below_alloc | apply pw_below_drewN | apply below_drew1) | exact HB.out)) hb); have n1_ := Aside0.mk (hbox); have n2_ := Aside0.mk ((by rw [hg]; exact (below_size (by repeat (first | (with_reducible first | exact HB.out | apply below_alloc | apply pw_below_drewN | apply below_drew1) | exact HB.out))) : w.heap.size ≤ gb270)); have n3_ := Aside0.mk ((by rw [hg]; exact (below_size (by repeat (first | (with_reducible first | exact HB.out | apply below_alloc | apply pw_below_drewN | apply below_drew1) | exact HB.out))) : w.heap.size ≤ gb270)); clear HB; have HB := n0_; have BK270 := n1_; have GW270 := n2_; have GE270 := n3_; clear n0_ n1_ n2_ n3_; clear hb hbox hg; have hcz20_0 : w19.cell? ⟨gb270, 0, none⟩ = some (.int .i64 a0_0) := (blk_cell BK270.out 0).trans rfl; have hcz20_1 : w19.cell? ⟨gb270, 1, none⟩ = some (.int .i64 a0_1) := (blk_cell BK270.out 1).trans rfl; have hcz20_2 : w19.cell? ⟨gb270, 2, none⟩ = some (.slice A0_2 l0_2.length c0_2) := (blk_cell BK270.out 2).trans rfl; have hfz20_0 := blk_frozen BK270.out 0; have hfz20_1 := blk_frozen BK270.out 1; have hfz20_2 := blk_frozen BK270.out 2) | ((with_reducible refine gate_callee (f := 101) rfl ?_); refine goesL_ (some 6) rfl rfl Try.func101 (by kernel_rfl) rfl #[.agg #[.int .i64 a0_0, .int .i64 a0_1, .slice A0_2 l0_2.length c0_2]] rfl (by (try simp only [List.map_toArray, List.map_cons, List.map_nil]); first | done | rfl | (simp only [List.length_drop, List.length_take]; rfl)) ?_; (with_reducible refine (impl_MeshOk.calls k a0_0 a0_1 _ _ l0_2 false _ ?side1 ?side2 A3.out).mono ?_); (case side1 => repeat (first | exact (Kd.C_below HR0_2.out HB.out) | (with_reducible refine Kd.C_alloc ?_ _) | (with_reducible refine Kd.C_drewN ?_ _) | (with_reducible refine Kd.C_drew ?_))); (case side2 => exact HC0_2.out); rintro e w21 ⟨rfl, hb⟩; refine ⟨_, rfl, ?_⟩; have n0_ := Aside0.mk (blk_below (g := gb270) (o := .cells #[.int .i64 a0_0, .int .i64 a0_1, .slice A0_2 l0_2.length c0_2] 34 (0, 0)) (by (with_reducible repeat (first | refine blk_drewN ?_ _ | refine blk_drew ?_ | refine blk_alloc ?_ _)); exact BK270.out) hb); have n1_ := Aside0.mk (below_step (by repeat (first | (with_reducible first | exact HB.out | apply below_alloc | apply pw_below_drewN | apply below_drew1 | refine below_set ?_ GE270.out) | exact HB.out)) hb); clear BK270; clear HB; have BK270 := n0_; have HB := n1_; clear n0_ n1_; (try clear hb); (try clear hb2); (try clear hk); (try clear hi)))
    go_ret
    exact ⟨by first | rfl | (simp [errW_none, errW_some] <;> rfl) | (simp [*, errW_none, errW_some] <;> rfl), by repeat (first | (with_reducible first | exact HB.out | apply below_alloc | apply pw_below_drewN | apply below_drew1 | refine below_set ?_ GE270.out) | exact HB.out)⟩


/-! ### impl_endOf: function 111 -/
def impl_endOf.f (a0_0 : Int) (a0_1 : Int) (l0_2 : List Int) (a1 : Int) : Option (Int) := (impl_NextNode.f a0_0 a0_1 (wrap64 (Int.tdiv a1 4)) (Int.tmod a1 4)).bind fun t275 => (some t275)
set_option maxHeartbeats 8000000 in
set_option maxRecDepth 100000 in
theorem impl_endOf.calls (a0_0 : Int) (a0_1 : Int) (A0_2 : Option Addr) (c0_2 : Nat) (l0_2 : List Int) (a1 : Int) (r : Int) (w : World) (hr0_2 : Kd.C (Kd.int .i64) w A0_2 l0_2.length l0_2) (hc0_2 : l0_2.length ≤ c0_2) (h : impl_endOf.f a0_0 a0_1 l0_2 a1 = some r) :
    Calls Try.prog 111 #[.agg #[.int .i64 a0_0, .int .i64 a0_1, .slice A0_2 l0_2.length c0_2], .int .i64 a1] w fun e w' => e = .returned (.int .i64 r) ∧ Below w.heap.size w w' := by
  have hu34 := Try.underlying34
  have hu32 := Try.underlying32
  have HR0_2 := Aside0.mk hr0_2
  have HC0_2 := Aside0.mk hc0_2
  clear hr0_2 hc0_2
  have HB := Aside0.mk (Below.refl w.heap.size w)
  have H : ((impl_NextNode.f a0_0 a0_1 (wrap64 (Int.tdiv a1 4)) (Int.tmod a1 4)).bind fun t275 => (some t275)) = some r := h
  clear h
  replace H := Option.bind_eq_some_iff.mp H
  obtain ⟨t275, A30, H⟩ := H
  replace H : (some t275) = some r := H
  have A3 := Aside0.mk A30
  clear A30
  obtain rfl := Option.some.inj H
  go_enter Try.func111, Try.ntmps111
  go_wp2_with (first | ((with_reducible refine gate_dst (N := 2) rfl ?_); refine box_event ?hg (N := 2) ?hd (cs := #[.int .i64 a0_0, .int .i64 a0_1, .slice A0_2 l0_2.length c0_2]) (t := 34) ?hr ?_; (case hd => rfl); (case hg => rfl); (case hr => first | (go_simp; done) | (go_simp; rfl)); intro gb274 hg w4 hbox hb; have n0_ := Aside0.mk (below_step (by repeat (first | (with_reducible first | exact HB.out | apply below_alloc | apply pw_below_drewN | apply below_drew1) | exact HB.out)) hb); have n1_ := Aside0.mk (hbox); have n2_ := Aside0.mk ((by rw [hg]; exact (below_size (by repeat (first | (with_reducible first | exact HB.out | apply below_alloc | apply pw_below_drewN | apply below_drew1) | exact HB.out))) : w.heap.size ≤ gb274)); have n3_ := Aside0.mk ((by rw [hg]; exact (below_size (by repeat (first | (with_reducible first | exact HB.out | apply below_alloc | apply pw_below_drewN | apply below_drew1) | exact HB.out))) : w.heap.size ≤ gb274)); clear HB; have HB := n0_; have BK274 := n1_; have GW274 := n2_; have GE274 := n3_; clear n0_ n1_ n2_ n3_; clear hb hbox hg; have hcz5_0 : w4.cell? ⟨gb274, 0, none⟩ = some (.int .i64 a0_0) := (blk_cell BK274.out 0).trans rfl; have hcz5_1 : w4.cell? ⟨gb274, 1, none⟩ = some (.int .i64 a0_1) := (blk_cell BK274.out 1).trans rfl; have hcz5_2 : w4.cell? ⟨gb274, 2, none⟩ = some (.slice A0_2 l0_2.length c0_2) := (blk_cell BK274.out 2).trans rfl; have hfz5_0 := blk_frozen BK274.out 0; have hfz5_1 := blk_frozen BK274.out 1; have hfz5_2 := blk_frozen BK274.out 2) | ((with_reducible refine gate_callee (f := 62) rfl ?_); refine goesL_ (some 11) rfl rfl Try.func62 (by kernel_rfl) rfl #[.agg #[.int .i64 a0_0, .int .i64 a0_1], .int .i64 (wrap64 (Int.tdiv a1 4)), .int .i64 (Int.tmod a1 4)] rfl (by (try simp only [List.map_toArray, List.map_cons, List.map_nil]); first | done | rfl | (simp only [List.length_drop, List.length_take]; rfl)) ?_; (with_reducible refine (impl_NextNode.calls a0_0 a0_1 (wrap64 (Int.tdiv a1 4)) (Int.tmod a1 4) t275 _ A3.out).mono ?_); rintro e w6 ⟨rfl, hb⟩; refine ⟨_, rfl, ?_⟩; have n0_ := Aside0.mk (blk_below (g := gb274) (o := .cells #[.int .i64 a0_0, .int .i64 a0_1, .slice A0_2 l0_2.length c0_2] 34 (0, 0)) (by (with_reducible repeat (first | refine blk_drewN ?_ _ | refine blk_drew ?_ | refine blk_alloc ?_ _)); exact BK274.out) hb); have n1_ := Aside0.mk (below_step (by repeat (first | (with_reducible first | exact HB.out | apply below_alloc | apply pw_below_drewN | apply below_drew1 | refine below_set ?_ GE274.out) | exact HB.out)) hb); clear BK274; clear HB; have BK274 := n0_; have HB := n1_; clear n0_ n1_; (try clear hb); (try clear hb2); (try clear hk); (try clear hi)))
  go_ret
  exact ⟨by first | rfl | (simp [errW_none, errW_some] <;> rfl) | (simp [*, errW_none, errW_some] <;> rfl), by repeat (first | (with_reducible first | exact HB.out | apply below_alloc | apply pw_below_drewN | apply below_drew1 | refine below_set ?_ GE274.out) | exact HB.out)⟩


/-! ### impl_WalkTable: function 52 -/
mutual
def impl_WalkTable.j0 : Nat → Int → Int → Bool → Int → Int → List Int → List Int → Option (List Int)
  | 0, _, _, _, _, _, _, _ => none
  | k + 1, x2, x3, x33, x277000, x277001, x277002, x278000 => if x33 = true then (some ([] : List Int)) else (impl_WalkTable.l0 k x3 (([] : List Int)) x2 x277000 x277001 x277002 x278000)
def impl_WalkTable.l0 : Nat → Int → List Int → Int → Int → Int → List Int → List Int → Option (List Int)
  | 0, _, _, _, _, _, _, _ => none
  | k + 1, x3, x9, x10, x277000, x277001, x277002, x278000 => (impl_PortAt.f k x277000 x277001 x277002 x278000 x10 x3).bind fun t284 => (if t284 < 0 then (some ([] : List Int)) else (if t284 = 4 then (if x10 = x3 then (some x9) else (some ([] : List Int))) else ((impl_HasChannel.f k x277000 x277001 x277002 (wrap64 ((wrap64 (4 * x10)) + t284))).bind fun t285 => (if t285 = true then ((impl_NodeCount.f x277000 x277001).bind fun t286 => (if (x9.length : Int) = t286 then (some ([] : List Int)) else (if x9.length < 17592186044416 then ((impl_endOf.f x277000 x277001 x277002 (wrap64 ((wrap64 (4 * x10)) + t284))).bind fun t290 => (impl_WalkTable.l0 k x3 (x9 ++ [wrap64 ((wrap64 (4 * x10)) + t284)]) t290 x277000 x277001 x277002 x278000)) else (none)))) else (some ([] : List Int))))))
end
def impl_WalkTable.f (k : Nat) (a0_0 : Int) (a0_1 : Int) (l0_2 : List Int) (l1_0 : List Int) (a2 : Int) (a3 : Int) : Option (List Int) := if a2 = a3 then (impl_WalkTable.j0 k a2 a3 true a0_0 a0_1 l0_2 l1_0) else ((impl_MeshOk.f k a0_0 a0_1 l0_2).bind fun t278 => (if t278 = true then ((impl_isNode.f a0_0 a0_1 a2).bind fun t279 => (if t279 = true then ((impl_isNode.f a0_0 a0_1 a3).bind fun t280 => (impl_WalkTable.j0 k a2 a3 (!t280) a0_0 a0_1 l0_2 l1_0)) else (impl_WalkTable.j0 k a2 a3 true a0_0 a0_1 l0_2 l1_0))) else (impl_WalkTable.j0 k a2 a3 true a0_0 a0_1 l0_2 l1_0)))
theorem impl_WalkTable.mono_l : ∀ k, (∀ y0 y1 y2 y3 y4 y5 y6, LeO (impl_WalkTable.j0 k y0 y1 y2 y3 y4 y5 y6) (impl_WalkTable.j0 (k + 1) y0 y1 y2 y3 y4 y5 y6)) ∧ (∀ y0 y1 y2 y3 y4 y5 y6, LeO (impl_WalkTable.l0 k y0 y1 y2 y3 y4 y5 y6) (impl_WalkTable.l0 (k + 1) y0 y1 y2 y3 y4 y5 y6))
  | 0 => ⟨fun _ _ _ _ _ _ _ r h => by simp [impl_WalkTable.j0] at h, fun _ _ _ _ _ _ _ r h => by simp [impl_WalkTable.l0] at h⟩
  | k + 1 => by
    obtain ⟨ih0, ih1⟩ := impl_WalkTable.mono_l k
    refine ⟨?_, ?_⟩
    · intro y0 y1 y2 y3 y4 y5 y6
      unfold impl_WalkTable.j0
      repeat' first
      | (with_reducible exact ih0 _ _ _ _ _ _ _)
      | (with_reducible exact ih1 _ _ _ _ _ _ _)
      | (with_reducible exact impl_HasChannel.mono _ _ _ _ _)
      | (with_reducible exact impl_MeshOk.mono _ _ _ _)
      | (with_reducible exact impl_PortAt.mono _ _ _ _ _ _ _)
      | (with_reducible exact LeO.refl _)
      | (with_reducible exact LeO.none _)
      | (with_reducible refine LeO.ite ?_ ?_)
      | (with_reducible refine LeO.bind ?_ (fun _ => ?_))
      | exact ih0 _ _ _ _ _ _ _
      | exact ih1 _ _ _ _ _ _ _
      | exact impl_HasChannel.mono _ _ _ _ _
      | exact impl_MeshOk.mono _ _ _ _
      | exact impl_PortAt.mono _ _ _ _ _ _ _
      | exact LeO.none _
      | refine LeO.ite ?_ ?_
      | refine LeO.bind ?_ (fun _ => ?_)
    · intro y0 y1 y2 y3 y4 y5 y6
      unfold impl_WalkTable.l0
      repeat' first
      | (with_reducible exact ih0 _ _ _ _ _ _ _)
      | (with_reducible exact ih1 _ _ _ _ _ _ _)
      | (with_reducible exact impl_HasChannel.mono _ _ _ _ _)
      | (with_reducible exact impl_MeshOk.mono _ _ _ _)
      | (with_reducible exact impl_PortAt.mono _ _ _ _ _ _ _)
      | (with_reducible exact LeO.refl _)
      | (with_reducible exact LeO.none _)
      | (with_reducible refine LeO.ite ?_ ?_)
      | (with_reducible refine LeO.bind ?_ (fun _ => ?_))
      | exact ih0 _ _ _ _ _ _ _
      | exact ih1 _ _ _ _ _ _ _
      | exact impl_HasChannel.mono _ _ _ _ _
      | exact impl_MeshOk.mono _ _ _ _
      | exact impl_PortAt.mono _ _ _ _ _ _ _
      | exact LeO.none _
      | refine LeO.ite ?_ ?_
      | refine LeO.bind ?_ (fun _ => ?_)
theorem impl_WalkTable.mono : ∀ a0 a1 a2 a3 a4 a5 k, LeO (impl_WalkTable.f k a0 a1 a2 a3 a4 a5) (impl_WalkTable.f (k + 1) a0 a1 a2 a3 a4 a5) := by
  intro a0 a1 a2 a3 a4 a5 k
  obtain ⟨ih0, ih1⟩ := impl_WalkTable.mono_l k
  unfold impl_WalkTable.f
  repeat' first
      | (with_reducible exact ih0 _ _ _ _ _ _ _)
      | (with_reducible exact ih1 _ _ _ _ _ _ _)
      | (with_reducible exact impl_HasChannel.mono _ _ _ _ _)
      | (with_reducible exact impl_MeshOk.mono _ _ _ _)
      | (with_reducible exact impl_PortAt.mono _ _ _ _ _ _ _)
      | (with_reducible exact LeO.refl _)
      | (with_reducible exact LeO.none _)
      | (with_reducible refine LeO.ite ?_ ?_)
      | (with_reducible refine LeO.bind ?_ (fun _ => ?_))
      | exact ih0 _ _ _ _ _ _ _
      | exact ih1 _ _ _ _ _ _ _
      | exact impl_HasChannel.mono _ _ _ _ _
      | exact impl_MeshOk.mono _ _ _ _
      | exact impl_PortAt.mono _ _ _ _ _ _ _
      | exact LeO.none _
      | refine LeO.ite ?_ ?_
      | refine LeO.bind ?_ (fun _ => ?_)
set_option maxHeartbeats 8000000 in
set_option maxRecDepth 100000 in
theorem impl_WalkTable.calls (k : Nat) (a0_0 : Int) (a0_1 : Int) (A0_2 : Option Addr) (c0_2 : Nat) (l0_2 : List Int) (A1_0 : Option Addr) (c1_0 : Nat) (l1_0 : List Int) (a2 : Int) (a3 : Int) (r : List Int) (w : World) (hr0_2 : Kd.C (Kd.int .i64) w A0_2 l0_2.length l0_2) (hc0_2 : l0_2.length ≤ c0_2) (hr1_0 : Kd.C (Kd.int .i64) w A1_0 l1_0.length l1_0) (hc1_0 : l1_0.length ≤ c1_0) (h : impl_WalkTable.f k a0_0 a0_1 l0_2 l1_0 a2 a3 = some r) :
    Calls Try.prog 52 #[.agg #[.int .i64 a0_0, .int .i64 a0_1, .slice A0_2 l0_2.length c0_2], .agg #[.slice A1_0 l1_0.length c1_0], .int .i64 a2, .int .i64 a3] w fun e w' => ∃ v0_ : Value, e = .returned (v0_) ∧ Kd.R (Kd.int .i64) 3 w' w.heap.size (fun _ => True) v0_ r ∧ Below w.heap.size w w' := by
  have hu34 := Try.underlying34
  have hu36 := Try.underlying36
  have hu32 := Try.underlying32
  have HR0_2 := Aside0.mk hr0_2
  have HC0_2 := Aside0.mk hc0_2
  clear hr0_2 hc0_2
  have HR1_0 := Aside0.mk hr1_0
  have HC1_0 := Aside0.mk hc1_0
  clear hr1_0 hc1_0
  have HB := Aside0.mk (Below.refl w.heap.size w)
  have H : (if a2 = a3 then (impl_WalkTable.j0 k a2 a3 true a0_0 a0_1 l0_2 l1_0) else ((impl_MeshOk.f k a0_0 a0_1 l0_2).bind fun t278 => (if t278 = true then ((impl_isNode.f a0_0 a0_1 a2).bind fun t279 => (if t279 = true then ((impl_isNode.f a0_0 a0_1 a3).bind fun t280 => (impl_WalkTable.j0 k a2 a3 (!t280) a0_0 a0_1 l0_2 l1_0)) else (impl_WalkTable.j0 k a2 a3 true a0_0 a0_1 l0_2 l1_0))) else (impl_WalkTable.j0 k a2 a3 true a0_0 a0_1 l0_2 l1_0)))) = some r := h
  clear h
  have HC5 := Aside0.mk H
  clear H
  go_enter Try.func52, Try.ntmps52
  go_upto_region 1 with (first | ((with_reducible refine gate_dst (N := 4) rfl ?_); (try (refine gate_guard (by rfl) ?_; dsimp only)); refine box_event ?hg (N := 4) ?hd (cs := #[.int .i64 a0_0, .int .i64 a0_1, .slice A0_2 l0_2.length c0_2]) (t := 34) ?hr ?_; (case hd => rfl); (case hg => rfl); (case hr => first | (go_simp; done) | (go_simp; rfl)); intro gb276 hg w6 hbox hb; have n0_ := Aside0.mk (below_step (by repeat (first | (with_reducible first | exact HB.out | apply below_alloc | apply pw_below_drewN | apply below_drew1) | exact HB.out)) hb); have n1_ := Aside0.mk (hbox); have n2_ := Aside0.mk ((by rw [hg]; exact (below_size (by repeat (first | (with_reducible first | exact HB.out | apply below_alloc | apply pw_below_drewN | apply below_drew1) | exact HB.out))) : w.heap.size ≤ gb276)); have n3_ := Aside0.mk ((by rw [hg]; exact (below_size (by repeat (first | (with_reducible first | exact HB.out | apply below_alloc | apply pw_below_drewN | apply below_drew1) | exact HB.out))) : w.heap.size ≤ gb276)); clear HB; have HB := n0_; have BK276 := n1_; have GW276 := n2_; have GE276 := n3_; clear n0_ n1_ n2_ n3_; clear hb hbox hg) | ((with_reducible refine gate_dst (N := 5) rfl ?_); (try (refine gate_guard (by rfl) ?_; dsimp only)); refine box_event ?hg (N := 5) ?hd (cs := #[.slice A1_0 l1_0.length c1_0]) (t := 36) ?hr ?_; (case hd => rfl); (case hg => rfl); (case hr => first | (go_simp; done) | (go_simp; rfl)); intro gb277 hg w7 hbox hb; have n0_ := Aside0.mk (blk_below (g := gb276) (o := .cells #[.int .i64 a0_0, .int .i64 a0_1, .slice A0_2 l0_2.length c0_2] 34 (0, 0)) (by (with_reducible repeat (first | refine blk_drewN ?_ _ | refine blk_drew ?_ | refine blk_alloc ?_ _)); exact BK276.out) hb); have n1_ := Aside0.mk (below_step (by repeat (first | (with_reducible first | exact HB.out | apply below_alloc | apply pw_below_drewN | apply below_drew1 | refine below_set ?_ GE276.out) | exact HB.out)) hb); have n2_ := Aside0.mk (hbox); have n3_ := Aside0.mk ((by rw [hg]; exact (below_size (by repeat (first | (with_reducible first | exact HB.out | apply below_alloc | apply pw_below_drewN | apply below_drew1 | refine below_set ?_ GE276.out) | exact HB.out))) : w.heap.size ≤ gb277)); have n4_ := Aside0.mk ((by rw [hg]; exact (below_size (by repeat (first | (with_reducible first | exact HB.out | apply below_alloc | apply pw_below_drewN | apply below_drew1 | refine below_set ?_ GE276.out) | exact HB.out))) : w.heap.size ≤ gb277)); have n5_ := Aside0.mk ((by rw [hg]; exact Nat.ne_of_lt (blk_lt (g := gb276) (o := .cells #[.int .i64 a0_0, .int .i64 a0_1, .slice A0_2 l0_2.length c0_2] 34 (0, 0)) (by (with_reducible repeat (first | refine blk_drewN ?_ _ | refine blk_drew ?_ | refine blk_alloc ?_ _)); exact BK276.out)) : gb276 ≠ gb277)); have n6_ := Aside0.mk ((by rw [hg]; exact Nat.ne_of_gt (blk_lt (g := gb276) (o := .cells #[.int .i64 a0_0, .int .i64 a0_1, .slice A0_2 l0_2.length c0_2] 34 (0, 0)) (by (with_reducible repeat (first | refine blk_drewN ?_ _ | refine blk_drew ?_ | refine blk_alloc ?_ _)); exact BK276.out)) : gb277 ≠ gb276)); clear BK276; clear HB; have BK276 := n0_; have HB := n1_; have BK277 := n2_; have GW277 := n3_; have GE277 := n4_; have NB276_277 := n5_; have NB277_276 := n6_; clear n0_ n1_ n2_ n3_ n4_ n5_ n6_; clear hb hbox hg))
  (try simp only [Act.put, List.setIfInBounds_toArray, List.set_cons_zero, List.set_cons_succ])
  go_cut [33] (fun v33 wc => ∃ (kq : Nat) (x33_4 : Bool), v33 = .bool x33_4 ∧ Aside0 (impl_WalkTable.j0 kq a2 a3 x33_4 a0_0 a0_1 l0_2 l1_0 = some r) ∧ Aside0 (kq ≤ k) ∧ Aside0 (wc.heap[gb276]? = some (.cells #[.int .i64 a0_0, .int .i64 a0_1, (.slice A0_2 l0_2.length c0_2)] 34 (0, 0))) ∧ Aside0 (wc.heap[gb277]? = some (.cells #[(.slice A1_0 l1_0.length c1_0)] 36 (0, 0))) ∧ Aside0 (Below w.heap.size w wc))
  case first =>
    have H := HC5.out
    clear HC5
    by_cases c8 : a2 = a3
    · rw [if_pos c8] at H
      have c8b0 : (a2 == a3) = true := beq_iff_eq.mpr c8
      have c8b1 : (a2 != a3) = false := bne_eq_false_iff_eq.mpr c8
      clear c8
      (first | rw [c8b0] | (simp only [i64_w, i32_w]; rw [c8b0]) | skip)
      have H' := Aside0.mk H
      clear H
      go_wp2
      go_meet
      case rel => exact ⟨_, (true), (by first | rfl | (simp; done) | (simp [*]; done)), H', ⟨by first | omega | exact Nat.le_refl _⟩, ⟨by (with_reducible repeat (first | refine blk_drewN ?_ _ | refine blk_drew ?_ | refine blk_alloc ?_ _)); exact BK276.out⟩, ⟨by (with_reducible repeat (first | refine blk_drewN ?_ _ | refine blk_drew ?_ | refine blk_alloc ?_ _)); exact BK277.out⟩, ⟨by repeat (first | (with_reducible first | exact HB.out | apply below_alloc | apply pw_below_drewN | apply below_drew1 | refine below_set ?_ GE276.out | refine below_set ?_ GE277.out) | exact HB.out)⟩⟩
    · rw [if_neg c8] at H
      have c8b0 : (a2 == a3) = false := beq_eq_false_iff_ne.mpr c8
      have c8b1 : (a2 != a3) = true := bne_iff_ne.mpr c8
      (first | rw [c8b0] | (simp only [i64_w, i32_w]; rw [c8b0]) | skip)
      replace H := Option.bind_eq_some_iff.mp H
      obtain ⟨t278, A90, H⟩ := H
      replace H : (if t278 = true then ((impl_isNode.f a0_0 a0_1 a2).bind fun t279 => (if t279 = true then ((impl_isNode.f a0_0 a0_1 a3).bind fun t280 => (impl_WalkTable.j0 k a2 a3 (!t280) a0_0 a0_1 l0_2 l1_0)) else (impl_WalkTable.j0 k a2 a3 true a0_0 a0_1 l0_2 l1_0))) else (impl_WalkTable.j0 k a2 a3 true a0_0 a0_1 l0_2 l1_0)) = some r := H
      have A9 := Aside0.mk A90
      clear A90
      by_cases c10 : t278 = true
      · subst c10
        have H1 : ((impl_isNode.f a0_0 a0_1 a2).bind fun t279 => (if t279 = true then ((impl_isNode.f a0_0 a0_1 a3).bind fun t280 => (impl_WalkTable.j0 k a2 a3 (!t280) a0_0 a0_1 l0_2 l1_0)) else (impl_WalkTable.j0 k a2 a3 true a0_0 a0_1 l0_2 l1_0))) = some r := by rw [if_pos rfl] at H; exact H
        clear H
        have H := H1
        clear H1
        replace H := Option.bind_eq_some_iff.mp H
        obtain ⟨t279, A110, H⟩ := H
        replace H : (if t279 = true then ((impl_isNode.f a0_0 a0_1 a3).bind fun t280 => (impl_WalkTable.j0 k a2 a3 (!t280) a0_0 a0_1 l0_2 l1_0)) else (impl_WalkTable.j0 k a2 a3 true a0_0 a0_1 l0_2 l1_0)) = some r := H
        have A11 := Aside0.mk A110
        clear A110
        by_cases c12 : t279 = true
        · subst c12
          have H1 : ((impl_isNode.f a0_0 a0_1 a3).bind fun t280 => (impl_WalkTable.j0 k a2 a3 (!t280) a0_0 a0_1 l0_2 l1_0)) = some r := by rw [if_pos rfl] at H; exact H
          clear H
          have H := H1
          clear H1
          replace H := Option.bind_eq_some_iff.mp H
          obtain ⟨t280, A130, H⟩ := H
          replace H : (impl_WalkTable.j0 k a2 a3 (!t280) a0_0 a0_1 l0_2 l1_0) = some r := H
          have A13 := Aside0.mk A130
          clear A130
          have H' := Aside0.mk H
          clear H
          have hnb14 := NB276_277.out
          have hnc14 := NB277_276.out
          have hcz15_0 : w7.cell? ⟨gb276, 0, none⟩ = some (.int .i64 a0_0) := (blk_cell BK276.out 0).trans rfl
          have hcz15_1 : w7.cell? ⟨gb276, 1, none⟩ = some (.int .i64 a0_1) := (blk_cell BK276.out 1).trans rfl
          have hcz15_2 : w7.cell? ⟨gb276, 2, none⟩ = some (.slice A0_2 l0_2.length c0_2) := (blk_cell BK276.out 2).trans rfl
          have hfz15_0 := blk_frozen BK276.out 0
          have hfz15_1 := blk_frozen BK276.out 1
          have hfz15_2 := blk_frozen BK276.out 2
          go_wp2_with (first | (go_at_call 101; (with_reducible refine (impl_MeshOk.calls k a0_0 a0_1 _ _ l0_2 true _ ?side1 ?side2 A9.out).mono ?_); (case side1 => repeat (first | exact (Kd.C_below HR0_2.out HB.out) | (with_reducible refine Kd.C_alloc ?_ _) | (with_reducible refine Kd.C_drewN ?_ _) | (with_reducible refine Kd.C_drew ?_))); (case side2 => exact HC0_2.out); rintro e w16 ⟨rfl, hb⟩; have n0_ := Aside0.mk (blk_below (g := gb276) (o := .cells #[.int .i64 a0_0, .int .i64 a0_1, .slice A0_2 l0_2.length c0_2] 34 (0, 0)) (by (with_reducible repeat (first | refine blk_drewN ?_ _ | refine blk_drew ?_ | refine blk_alloc ?_ _)); exact BK276.out) hb); have n1_ := Aside0.mk (blk_below (g := gb277) (o := .cells #[.slice A1_0 l1_0.length c1_0] 36 (0, 0)) (by (with_reducible repeat (first | refine blk_drewN ?_ _ | refine blk_drew ?_ | refine blk_alloc ?_ _)); exact BK277.out) hb); have n2_ := Aside0.mk (below_step (by repeat (first | (with_reducible first | exact HB.out | apply below_alloc | apply pw_below_drewN | apply below_drew1 | refine below_set ?_ GE276.out | refine below_set ?_ GE277.out) | exact HB.out)) hb); clear BK276; clear BK277; clear HB; have BK276 := n0_; have BK277 := n1_; have HB := n2_; clear n0_ n1_ n2_; (try clear hb); (try clear hb2); (try clear hk); (try clear hi); have hcz17_0 : w16.cell? ⟨gb276, 0, none⟩ = some (.int .i64 a0_0) := (blk_cell BK276.out 0).trans rfl; have hcz17_1 : w16.cell? ⟨gb276, 1, none⟩ = some (.int .i64 a0_1) := (blk_cell BK276.out 1).trans rfl; have hcz17_2 : w16.cell? ⟨gb276, 2, none⟩ = some (.slice A0_2 l0_2.length c0_2) := (blk_cell BK276.out 2).trans rfl; have hfz17_0 := blk_frozen BK276.out 0; have hfz17_1 := blk_frozen BK276.out 1; have hfz17_2 := blk_frozen BK276.out 2) | (go_at_call 108; (with_reducible refine (impl_isNode.calls a0_0 a0_1 a2 true _ A11.out).mono ?_); rintro e w18 ⟨rfl, hb⟩; have n0_ := Aside0.mk (blk_below (g := gb276) (o := .cells #[.int .i64 a0_0, .int .i64 a0_1, .slice A0_2 l0_2.length c0_2] 34 (0, 0)) (by (with_reducible repeat (first | refine blk_drewN ?_ _ | refine blk_drew ?_ | refine blk_alloc ?_ _)); exact BK276.out) hb); have n1_ := Aside0.mk (blk_below (g := gb277) (o := .cells #[.slice A1_0 l1_0.length c1_0] 36 (0, 0)) (by (with_reducible repeat (first | refine blk_drewN ?_ _ | refine blk_drew ?_ | refine blk_alloc ?_ _)); exact BK277.out) hb); have n2_ := Aside0.mk (below_step (by repeat (first | (with_reducible first | exact HB.out | apply below_alloc | apply pw_below_drewN | apply below_drew1 | refine below_set ?_ GE276.out | refine below_set ?_ GE277.out) | exact HB.out)) hb); clear BK276; clear BK277; clear HB; have BK276 := n0_; have BK277 := n1_; have HB := n2_; clear n0_ n1_ n2_; (try clear hb); (try clear hb2); (try clear hk); (try clear hi); have hcz19_0 : w18.cell? ⟨gb276, 0, none⟩ = some (.int .i64 a0_0) := (blk_cell BK276.out 0).trans rfl; have hcz19_1 : w18.cell? ⟨gb276, 1, none⟩ = some (.int .i64 a0_1) := (blk_cell BK276.out 1).trans rfl; have hcz19_2 : w18.cell? ⟨gb276, 2, none⟩ = some (.slice A0_2 l0_2.length c0_2) := (blk_cell BK276.out 2).trans rfl; have hfz19_0 := blk_frozen BK276.out 0; have hfz19_1 := blk_frozen BK276.out 1; have hfz19_2 := blk_frozen BK276.out 2) | (go_at_call 108; (with_reducible refine (impl_isNode.calls a0_0 a0_1 a3 t280 _ A13.out).mono ?_); rintro e w20 ⟨rfl, hb⟩; have n0_ := Aside0.mk (blk_below (g := gb276) (o := .cells #[.int .i64 a0_0, .int .i64 a0_1, .slice A0_2 l0_2.length c0_2] 34 (0, 0)) (by (with_reducible repeat (first | refine blk_drewN ?_ _ | refine blk_drew ?_ | refine blk_alloc ?_ _)); exact BK276.out) hb); have n1_ := Aside0.mk (blk_below (g := gb277) (o := .cells #[.slice A1_0 l1_0.length c1_0] 36 (0, 0)) (by (with_reducible repeat (first | refine blk_drewN ?_ _ | refine blk_drew ?_ | refine blk_alloc ?_ _)); exact BK277.out) hb); have n2_ := Aside0.mk (below_step (by repeat (first | (with_reducible first | exact HB.out | apply below_alloc | apply pw_below_drewN | apply below_drew1 | refine below_set ?_ GE276.out | refine below_set ?_ GE277.out) | exact HB.out)) hb); clear BK276; clear BK277; clear HB; have BK276 := n0_; have BK277 := n1_; have HB := n2_; clear n0_ n1_ n2_; (try clear hb); (try clear hb2); (try clear hk); (try clear hi)))
          go_meet
          case rel => exact ⟨_, (!t280), (by first | rfl | (simp; done) | (simp [*]; done)), H', ⟨by first | omega | exact Nat.le_refl _⟩, ⟨by (with_reducible repeat (first | refine blk_drewN ?_ _ | refine blk_drew ?_ | refine blk_alloc ?_ _)); exact BK276.out⟩, ⟨by (with_reducible repeat (first | refine blk_drewN ?_ _ | refine blk_drew ?_ | refine blk_alloc ?_ _)); exact BK277.out⟩, ⟨by repeat (first | (with_reducible first | exact HB.out | apply below_alloc | apply pw_below_drewN | apply below_drew1 | refine below_set ?_ GE276.out | refine below_set ?_ GE277.out) | exact HB.out)⟩⟩
        · replace c12 := Bool.eq_false_iff.mpr c12
          subst c12
          have H1 : (impl_WalkTable.j0 k a2 a3 true a0_0 a0_1 l0_2 l1_0) = some r := by rw [if_neg (show ¬ (false = true) by decide)] at H; exact H
          clear H
          have H := H1
          clear H1
          have H' := Aside0.mk H
          clear H
          have hnb21 := NB276_277.out
          have hnc21 := NB277_276.out
          have hcz22_0 : w7.cell? ⟨gb276, 0, none⟩ = some (.int .i64 a0_0) := (blk_cell BK276.out 0).trans rfl
          have hcz22_1 : w7.cell? ⟨gb276, 1, none⟩ = some (.int .i64 a0_1) := (blk_cell BK276.out 1).trans rfl
          have hcz22_2 : w7.cell? ⟨gb276, 2, none⟩ = some (.slice A0_2 l0_2.length c0_2) := (blk_cell BK276.out 2).trans rfl
          have hfz22_0 := blk_frozen BK276.out 0
          have hfz22_1 := blk_frozen BK276.out 1
          have hfz22_2 := blk_frozen BK276.out 2
          go_wp2_with (first | (go_at_call 101; (with_reducible refine (impl_MeshOk.calls k a0_0 a0_1 _ _ l0_2 true _ ?side1 ?side2 A9.out).mono ?_); (case side1 => repeat (first | exact (Kd.C_below HR0_2.out HB.out) | (with_reducible refine Kd.C_alloc ?_ _) | (with_reducible refine Kd.C_drewN ?_ _) | (with_reducible refine Kd.C_drew ?_))); (case side2 => exact HC0_2.out); rintro e w23 ⟨rfl, hb⟩; have n0_ := Aside0.mk (blk_below (g := gb276) (o := .cells #[.int .i64 a0_0, .int .i64 a0_1, .slice A0_2 l0_2.length c0_2] 34 (0, 0)) (by (with_reducible repeat (first | refine blk_drewN ?_ _ | refine blk_drew ?_ | refine blk_alloc ?_ _)); exact BK276.out) hb); have n1_ := Aside0.mk (blk_below (g := gb277) (o := .cells #[.slice A1_0 l1_0.length c1_0] 36 (0, 0)) (by (with_reducible repeat (first | refine blk_drewN ?_ _ | refine blk_drew ?_ | refine blk_alloc ?_ _)); exact BK277.out) hb); have n2_ := Aside0.mk (below_step (by repeat (first | (with_reducible first | exact HB.out | apply below_alloc | apply pw_below_drewN | apply below_drew1 | refine below_set ?_ GE276.out | refine below_set ?_ GE277.out) | exact HB.out)) hb); clear BK276; clear BK277; clear HB; have BK276 := n0_; have BK277 := n1_; have HB := n2_; clear n0_ n1_ n2_; (try clear hb); (try clear hb2); (try clear hk); (try clear hi); have hcz24_0 : w23.cell? ⟨gb276, 0, none⟩ = some (.int .i64 a0_0) := (blk_cell BK276.out 0).trans rfl; have hcz24_1 : w23.cell? ⟨gb276, 1, none⟩ = some (.int .i64 a0_1) := (blk_cell BK276.out 1).trans rfl; have hcz24_2 : w23.cell? ⟨gb276, 2, none⟩ = some (.slice A0_2 l0_2.length c0_2) := (blk_cell BK276.out 2).trans rfl; have hfz24_0 := blk_frozen BK276.out 0; have hfz24_1 := blk_frozen BK276.out 1; have hfz24_2 := blk_frozen BK276.out 2) | (go_at_call 108; (with_reducible refine (impl_isNode.calls a0_0 a0_1 a2 false _ A11.out).mono ?_); rintro e w25 ⟨rfl, hb⟩; have n0_ := Aside0.mk (blk_below (g := gb276) (o := .cells #[.int .i64 a0_0, .int .i64 a0_1, .slice A0_2 l0_2.length c0_2] 34 (0, 0)) (by (with_reducible repeat (first | refine blk_drewN ?_ _ | refine blk_drew ?_ | refine blk_alloc ?_ _)); exact BK276.out) hb); have n1_ := Aside0.mk (blk_below (g := gb277) (o := .cells #[.slice A1_0 l1_0.length c1_0] 36 (0, 0)) (by (with_reducible repeat (first | refine blk_drewN ?_ _ | refine blk_drew ?_ | refine blk_alloc ?_ _)); exact BK277.out) hb); have n2_ := Aside0.mk (below_step (by repeat (first | (with_reducible first | exact HB.out | apply below_alloc | apply pw_below_drewN | apply below_drew1 | refine below_set ?_ GE276.out | refine below_set ?_ GE277.out) | exact HB.out)) hb); clear BK276; clear BK277; clear HB; have BK276 := n0_; have BK277 := n1_; have HB := n2_; clear n0_ n1_ n2_; (try clear hb); (try clear hb2); (try clear hk); (try clear hi)))
          go_meet
          case rel => exact ⟨_, (true), (by first | rfl | (simp; done) | (simp [*]; done)), H', ⟨by first | omega | exact Nat.le_refl _⟩, ⟨by (with_reducible repeat (first | refine blk_drewN ?_ _ | refine blk_drew ?_ | refine blk_alloc ?_ _)); exact BK276.out⟩, ⟨by (with_reducible repeat (first | refine blk_drewN ?_ _ | refine blk_drew ?_ | refine blk_alloc ?_ _)); exact BK277.out⟩, ⟨by repeat (first | (with_reducible first | exact HB.out | apply below_alloc | apply pw_below_drewN | apply below_drew1 | refine below_set ?_ GE276.out | refine below_set ?_ GE277.out) | exact HB.out)⟩⟩
      · replace c10 := Bool.eq_false_iff.mpr c10
        subst c10
        have H1 : (impl_WalkTable.j0 k a2 a3 true a0_0 a0_1 l0_2 l1_0) = some r := by rw [if_neg (show ¬ (false = true) by decide)] at H; exact H
        clear H
        have H := H1
        clear H1
        have H' := Aside0.mk H
        clear H
        have hnb26 := NB276_277.out
        have hnc26 := NB277_276.out
        have hcz27_0 : w7.cell? ⟨gb276, 0, none⟩ = some (.int .i64 a0_0) := (blk_cell BK276.out 0).trans rfl
        have hcz27_1 : w7.cell? ⟨gb276, 1, none⟩ = some (.int .i64 a0_1) := (blk_cell BK276.out 1).trans rfl
        have hcz27_2 : w7.cell? ⟨gb276, 2, none⟩ = some (.slice A0_2 l0_2.length c0_2) := (blk_cell BK276.out 2).trans rfl
        have hfz27_0 := blk_frozen BK276.out 0
        have hfz27_1 := blk_frozen BK276.out 1
        have hfz27_2 := blk_frozen BK276.out 2
        go_wp2_with (first | (go_at_call 101; (with_reducible refine (impl_MeshOk.calls k a0_0 a0_1 _ _ l0_2 false _ ?side1 ?side2 A9.out).mono ?_); (case side1 => repeat (first | exact (Kd.C_below HR0_2.out HB.out) | (with_reducible refine Kd.C_alloc ?_ _) | (with_reducible refine Kd.C_drewN ?_ _) | (with_reducible refine Kd.C_drew ?_))); (case side2 => exact HC0_2.out); rintro e w28 ⟨rfl, hb⟩; have n0_ := Aside0.mk (blk_below (g := gb276) (o := .cells #[.int .i64 a0_0, .int .i64 a0_1, .slice A0_2 l0_2.length c0_2] 34 (0, 0)) (by (with_reducible repeat (first | refine blk_drewN ?_ _ | refine blk_drew ?_ | refine blk_alloc ?_ _)); exact BK276.out) hb); have n1_ := Aside0.mk (blk_below (g := gb277) (o := .cells #[.slice A1_0 l1_0.length c1_0] 36 (0, 0)) (by (with_reducible repeat (first | refine blk_drewN ?_ _ | refine blk_drew ?_ | refine blk_alloc ?_ _)); exact BK277.out) hb); have n2_ := Aside0.mk (below_step (by repeat (first | (with_reducible first | exact HB.out | apply below_alloc | apply pw_below_drewN | apply below_drew1 | refine below_set ?_ GE276.out | refine below_set ?_ GE277.out) | exact HB.out)) hb); clear BK276; clear BK277; clear HB; have BK276 := n0_; have BK277 := n1_; have HB := n2_; clear n0_ n1_ n2_; (try clear hb); (try clear hb2); (try clear hk); (try clear hi)))
        go_meet
        case rel => exact ⟨_, (true), (by first | rfl | (simp; done) | (simp [*]; done)), H', ⟨by first | omega | exact Nat.le_refl _⟩, ⟨by (with_reducible repeat (first | refine blk_drewN ?_ _ | refine blk_drew ?_ | refine blk_alloc ?_ _)); exact BK276.out⟩, ⟨by (with_reducible repeat (first | refine blk_drewN ?_ _ | refine blk_drew ?_ | refine blk_alloc ?_ _)); exact BK277.out⟩, ⟨by repeat (first | (with_reducible first | exact HB.out | apply below_alloc | apply pw_below_drewN | apply below_drew1 | refine below_set ?_ GE276.out | refine below_set ?_ GE277.out) | exact HB.out)⟩⟩
  case rest =>
    clear HC5
    try clear c1
    try clear c2
    try clear p2
    try clear c5
    try clear c8
    try clear c8b0
    try clear c8b1
    try clear c10
    try clear c12
    try clear c14
    try clear c21
    try clear c26
    try clear hcz15_0
    try clear hcz15_1
    try clear hcz15_2
    try clear hcz17_0
    try clear hcz17_1
    try clear hcz17_2
    try clear hcz19_0
    try clear hcz19_1
    try clear hcz19_2
    try clear hcz22_0
    try clear hcz22_1
    try clear hcz22_2
    try clear hcz24_0
    try clear hcz24_1
    try clear hcz24_2
    try clear hcz27_0
    try clear hcz27_1
    try clear hcz27_2
    try clear hfz15_0
    try clear hfz15_1
    try clear hfz15_2
    try clear hfz17_0
    try clear hfz17_1
    try clear hfz17_2
    try clear hfz19_0
    try clear hfz19_1
    try clear hfz19_2
    try clear hfz22_0
    try clear hfz22_1
    try clear hfz22_2
    try clear hfz24_0
    try clear hfz24_1
    try clear hfz24_2
    try clear hfz27_0
    try clear hfz27_1
    try clear hfz27_2
    obtain ⟨kq, x33_4, rfl, HA, HJ4, BK276, BK277, HB⟩ := hcut
    cases kq with
    | zero => exact absurd HA.out (by simp [impl_WalkTable.j0])
    | succ kj4 =>
      have H := HA.out
      clear HA
      simp only [impl_WalkTable.j0] at H
      by_cases c29 : x33_4 = true
      · subst c29
        have H1 : (some ([] : List Int)) = some r := by rw [if_pos rfl] at H; exact H
        clear H
        have H := H1
        clear H1
        obtain rfl := Option.some.inj H
        go_wp2
        go_ret
        exact ⟨_, by first | rfl | (simp [errW_none, errW_some] <;> rfl) | (simp [*, errW_none, errW_some] <;> rfl), by first | exact Kd.R_nil _ _ _ _ _ | exact Kd.N_nil _ _ _ _ _ | exact Kd.V_nil _ _ _ _ _ | exact Kd.Q_nil _ _ _ _ _ | exact Kd.S_nil _ _ _ _ _, by repeat (first | (with_reducible first | exact HB.out | apply below_alloc | apply pw_below_drewN | apply below_drew1 | refine below_set ?_ GE276.out | refine below_set ?_ GE277.out) | exact HB.out)⟩
      · replace c29 := Bool.eq_false_iff.mpr c29
        subst c29
        have H1 : (impl_WalkTable.l0 kj4 a3 (([] : List Int)) a2 a0_0 a0_1 l0_2 l1_0) = some r := by rw [if_neg (show ¬ (false = true) by decide)] at H; exact H
        clear H
        have H := H1
        clear H1
        obtain ⟨y281, hy281⟩ : ∃ y_ : List Int, y_ = (([] : List Int)) := ⟨_, rfl⟩
        replace H : (impl_WalkTable.l0 kj4 a3 y281 a2 a0_0 a0_1 l0_2 l1_0) = some r := by first | (rw [hy281]; with_reducible exact H) | (have H2_ := (Option.bind_some _ _).symm.trans H; rw [hy281]; with_reducible exact H2_) | (have H2_ := (Option.bind_some _ _).symm.trans H; with_reducible exact H2_) | with_reducible exact H | (rw [hy281]; exact H) | exact H
        have Ny281 := Aside0.mk hy281
        clear hy281
        have H' := Aside0.mk H
        clear H
        go_wp2_with (first | ((with_reducible refine gate_dst (N := 34) rfl ?_); (try (refine gate_guard (by rfl) ?_; dsimp only)); refine Kd.R_lit (Kd.int .i64) _ 3 ?hg (N := 34) ?hd (xs := ([] : List Int)) (inner := []) (ok := fun _ => True) (okp := fun _ => True) ?hr ?hp (fun _ hk => hk) trivial (Below.refl _ _) (Nat.le_refl _) (by simp) ?_; (case hd => rfl); (case hg => rfl); (case hr => first | (go_simp; done) | (go_simp; rfl)); (case hp => exact (Reps.none _ _)); intro v282 w30 ho31 hb hg_ hnew_; clear hg_ hnew_; (first | rw [← Ny281.out] at ho31 | (simp only [Int.reduceToNat] at ho31; rw [← Ny281.out] at ho31)); have n0_ := Aside0.mk (Kd.R_lower ho31 (below_size (by repeat (first | (with_reducible first | exact HB.out | apply below_alloc | apply pw_below_drewN | apply below_drew1 | refine below_set ?_ GE276.out | refine below_set ?_ GE277.out) | exact HB.out)))); have n1_ := Aside0.mk (blk_below (g := gb276) (o := .cells #[.int .i64 a0_0, .int .i64 a0_1, .slice A0_2 l0_2.length c0_2] 34 (0, 0)) (by (with_reducible repeat (first | refine blk_drewN ?_ _ | refine blk_drew ?_ | refine blk_alloc ?_ _)); exact BK276.out) hb); have n2_ := Aside0.mk (blk_below (g := gb277) (o := .cells #[.slice A1_0 l1_0.length c1_0] 36 (0, 0)) (by (with_reducible repeat (first | refine blk_drewN ?_ _ | refine blk_drew ?_ | refine blk_alloc ?_ _)); exact BK277.out) hb); have n3_ := Aside0.mk (below_step (by repeat (first | (with_reducible first | exact HB.out | apply below_alloc | apply pw_below_drewN | apply below_drew1 | refine below_set ?_ GE276.out | refine below_set ?_ GE277.out) | exact HB.out)) hb); clear BK276; clear BK277; clear HB; have HO283 := n0_; have BK276 := n1_; have BK277 := n2_; have HB := n3_; clear n0_ n1_ n2_ n3_; clear hb ho31))
        go_loopg [9, 10] kj4 (fun kq v9 v10 w' => ∃ (x9_2 : List Int) (x10_2 : Int), v10 = .int .i64 x10_2 ∧ Aside0 (impl_WalkTable.l0 kq a3 x9_2 x10_2 a0_0 a0_1 l0_2 l1_0 = some r) ∧ Aside0 (kq ≤ kj4) ∧ Aside0 (Kd.R (Kd.int .i64) 3 w' w.heap.size (fun _ => True) v9 x9_2) ∧ Aside0 (w'.heap[gb276]? = some (.cells #[.int .i64 a0_0, .int .i64 a0_1, (.slice A0_2 l0_2.length c0_2)] 34 (0, 0))) ∧ Aside0 (w'.heap[gb277]? = some (.cells #[(.slice A1_0 l1_0.length c1_0)] 36 (0, 0))) ∧ Aside0 (Below w.heap.size w w'))
        case atStart => exact ⟨(y281), (a2), (by first | rfl | (simp; done) | (simp [*]; done)), H', ⟨Nat.le_refl _⟩, ⟨by (with_reducible repeat (first | apply Kd.R_alloc | apply Kd.R_drewN | apply Kd.R_drew)); exact HO283.out⟩, ⟨by (with_reducible repeat (first | refine blk_drewN ?_ _ | refine blk_drew ?_ | refine blk_alloc ?_ _)); exact BK276.out⟩, ⟨by (with_reducible repeat (first | refine blk_drewN ?_ _ | refine blk_drew ?_ | refine blk_alloc ?_ _)); exact BK277.out⟩, ⟨by repeat (first | (with_reducible first | exact HB.out | apply below_alloc | apply pw_below_drewN | apply below_drew1 | refine below_set ?_ GE276.out | refine below_set ?_ GE277.out) | exact HB.out)⟩⟩
        case round =>
          clear H'
          try clear c1
          try clear c2
          try clear p2
          try clear c5
          try clear c8
          try clear c8b0
          try clear c8b1
          try clear c10
          try clear c12
          try clear c14
          try clear c21
          try clear c26
          try clear c29
          try clear hcz15_0
          try clear hcz15_1
          try clear hcz15_2
          try clear hcz17_0
          try clear hcz17_1
          try clear hcz17_2
          try clear hcz19_0
          try clear hcz19_1
          try clear hcz19_2
          try clear hcz22_0
          try clear hcz22_1
          try clear hcz22_2
          try clear hcz24_0
          try clear hcz24_1
          try clear hcz24_2
          try clear hcz27_0
          try clear hcz27_1
          try clear hcz27_2
          try clear hfz15_0
          try clear hfz15_1
          try clear hfz15_2
          try clear hfz17_0
          try clear hfz17_1
          try clear hfz17_2
          try clear hfz19_0
          try clear hfz19_1
          try clear hfz19_2
          try clear hfz22_0
          try clear hfz22_1
          try clear hfz22_2
          try clear hfz24_0
          try clear hfz24_1
          try clear hfz24_2
          try clear hfz27_0
          try clear hfz27_1
          try clear hfz27_2
          try clear p2
          obtain ⟨x9_2, x10_2, rfl, HA, HK2, HO_9, BK276, BK277, HB⟩ := hrel
          cases gk with
          | zero => exact absurd HA.out (by simp [impl_WalkTable.l0])
          | succ k2 =>
            have H := HA.out
            clear HA
            simp only [impl_WalkTable.l0] at H
            replace H := Option.bind_eq_some_iff.mp H
            obtain ⟨t284, A320, H⟩ := H
            replace H : (if t284 < 0 then (some ([] : List Int)) else (if t284 = 4 then (if x10_2 = a3 then (some x9_2) else (some ([] : List Int))) else ((impl_HasChannel.f k2 a0_0 a0_1 l0_2 (wrap64 ((wrap64 (4 * x10_2)) + t284))).bind fun t285 => (if t285 = true then ((impl_NodeCount.f a0_0 a0_1).bind fun t286 => (if (x9_2.length : Int) = t286 then (some ([] : List Int)) else (if x9_2.length < 17592186044416 then ((impl_endOf.f a0_0 a0_1 l0_2 (wrap64 ((wrap64 (4 * x10_2)) + t284))).bind fun t290 => (impl_WalkTable.l0 k2 a3 (x9_2 ++ [wrap64 ((wrap64 (4 * x10_2)) + t284)]) t290 a0_0 a0_1 l0_2 l1_0)) else (none)))) else (some ([] : List Int)))))) = some r := H
            have A32 := Aside0.mk A320
            clear A320
            by_cases c33 : t284 < 0
            · rw [if_pos c33] at H
              have c33b0 : decide (t284 < 0) = true := decide_eq_true c33
              clear c33
              obtain rfl := Option.some.inj H
              have hnb34 := NB276_277.out
              have hnc34 := NB277_276.out
              have hcz35_0 : wr.cell? ⟨gb276, 0, none⟩ = some (.int .i64 a0_0) := (blk_cell BK276.out 0).trans rfl
              have hcz35_1 : wr.cell? ⟨gb276, 1, none⟩ = some (.int .i64 a0_1) := (blk_cell BK276.out 1).trans rfl
              have hcz35_2 : wr.cell? ⟨gb276, 2, none⟩ = some (.slice A0_2 l0_2.length c0_2) := (blk_cell BK276.out 2).trans rfl
              have hfz35_0 := blk_frozen BK276.out 0
              have hfz35_1 := blk_frozen BK276.out 1
              have hfz35_2 := blk_frozen BK276.out 2
              have hcz36_0 : wr.cell? ⟨gb277, 0, none⟩ = some (.slice A1_0 l1_0.length c1_0) := (blk_cell BK277.out 0).trans rfl
              have hfz36_0 := blk_frozen BK277.out 0
              go_wp2_with (first | ((with_reducible refine gate_callee (f := 109) rfl ?_); refine goesL_ (some 40) rfl rfl Try.func109 (by kernel_rfl) rfl #[.agg #[.int .i64 a0_0, .int .i64 a0_1, .slice A0_2 l0_2.length c0_2], .agg #[.slice A1_0 l1_0.length c1_0], .int .i64 x10_2, .int .i64 a3] rfl (by (try simp only [List.map_toArray, List.map_cons, List.map_nil]); first | done | rfl | (simp only [List.length_drop, List.length_take]; rfl)) ?_; (with_reducible refine (impl_PortAt.calls k2 a0_0 a0_1 _ _ l0_2 _ _ l1_0 x10_2 a3 t284 _ ?side1 ?side2 ?side3 ?side4 A32.out).mono ?_); (case side1 => repeat (first | exact (Kd.C_below HR0_2.out HB.out) | (with_reducible refine Kd.C_alloc ?_ _) | (with_reducible refine Kd.C_drewN ?_ _) | (with_reducible refine Kd.C_drew ?_))); (case side2 => exact HC0_2.out); (case side3 => repeat (first | exact (Kd.C_below HR1_0.out HB.out) | (with_reducible refine Kd.C_alloc ?_ _) | (with_reducible refine Kd.C_drewN ?_ _) | (with_reducible refine Kd.C_drew ?_))); (case side4 => exact HC1_0.out); rintro e w37 ⟨rfl, hb⟩; refine ⟨_, rfl, ?_⟩; have n0_ := Aside0.mk (Kd.R_below (by (with_reducible repeat (first | apply Kd.R_alloc | apply Kd.R_drewN | apply Kd.R_drew)); exact HO_9.out) hb); have n1_ := Aside0.mk (blk_below (g := gb276) (o := .cells #[.int .i64 a0_0, .int .i64 a0_1, .slice A0_2 l0_2.length c0_2] 34 (0, 0)) (by (with_reducible repeat (first | refine blk_drewN ?_ _ | refine blk_drew ?_ | refine blk_alloc ?_ _)); exact BK276.out) hb); have n2_ := Aside0.mk (blk_below (g := gb277) (o := .cells #[.slice A1_0 l1_0.length c1_0] 36 (0, 0)) (by (with_reducible repeat (first | refine blk_drewN ?_ _ | refine blk_drew ?_ | refine blk_alloc ?_ _)); exact BK277.out) hb); have n3_ := Aside0.mk (below_step (by repeat (first | (with_reducible first | exact HB.out | apply below_alloc | apply pw_below_drewN | apply below_drew1 | refine below_set ?_ GE276.out | refine below_set ?_ GE277.out) | exact HB.out)) hb); clear HO_9; clear BK276; clear BK277; clear HB; have HO_9 := n0_; have BK276 := n1_; have BK277 := n2_; have HB := n3_; clear n0_ n1_ n2_ n3_; (try clear hb); (try clear hb2); (try clear hk); (try clear hi)))
              go_ret
              exact ⟨_, by first | rfl | (simp [errW_none, errW_some] <;> rfl) | (simp [*, errW_none, errW_some] <;> rfl), by first | exact Kd.R_nil _ _ _ _ _ | exact Kd.N_nil _ _ _ _ _ | exact Kd.V_nil _ _ _ _ _ | exact Kd.Q_nil _ _ _ _ _ | exact Kd.S_nil _ _ _ _ _, by repeat (first | (with_reducible first | exact HB.out | apply below_alloc | apply pw_below_drewN | apply below_drew1 | refine below_set ?_ GE276.out | refine below_set ?_ GE277.out) | exact HB.out)⟩
            · rw [if_neg c33] at H
              have c33b0 : decide (t284 < 0) = false := decide_eq_false c33
              clear c33
              by_cases c38 : t284 = 4
              · rw [if_pos c38] at H
                have c38b0 : (t284 == 4) = true := beq_iff_eq.mpr c38
                have c38b1 : (t284 != 4) = false := bne_eq_false_iff_eq.mpr c38
                clear c38
                by_cases c39 : x10_2 = a3
                · rw [if_pos c39] at H
                  have c39b0 : (x10_2 == a3) = true := beq_iff_eq.mpr c39
                  have c39b1 : (x10_2 != a3) = false := bne_eq_false_iff_eq.mpr c39
                  clear c39
                  obtain rfl := Option.some.inj H
                  have hnb40 := NB276_277.out
                  have hnc40 := NB277_276.out
                  have hcz41_0 : wr.cell? ⟨gb276, 0, none⟩ = some (.int .i64 a0_0) := (blk_cell BK276.out 0).trans rfl
                  have hcz41_1 : wr.cell? ⟨gb276, 1, none⟩ = some (.int .i64 a0_1) := (blk_cell BK276.out 1).trans rfl
                  have hcz41_2 : wr.cell? ⟨gb276, 2, none⟩ = some (.slice A0_2 l0_2.length c0_2) := (blk_cell BK276.out 2).trans rfl
                  have hfz41_0 := blk_frozen BK276.out 0
                  have hfz41_1 := blk_frozen BK276.out 1
                  have hfz41_2 := blk_frozen BK276.out 2
                  have hcz42_0 : wr.cell? ⟨gb277, 0, none⟩ = some (.slice A1_0 l1_0.length c1_0) := (blk_cell BK277.out 0).trans rfl
                  have hfz42_0 := blk_frozen BK277.out 0
                  go_wp2_with (first | ((with_reducible refine gate_callee (f := 109) rfl ?_); refine goesL_ (some 40) rfl rfl Try.func109 (by kernel_rfl) rfl #[.agg #[.int .i64 a0_0, .int .i64 a0_1, .slice A0_2 l0_2.length c0_2], .agg #[.slice A1_0 l1_0.length c1_0], .int .i64 x10_2, .int .i64 a3] rfl (by (try simp only [List.map_toArray, List.map_cons, List.map_nil]); first | done | rfl | (simp only [List.length_drop, List.length_take]; rfl)) ?_; (with_reducible refine (impl_PortAt.calls k2 a0_0 a0_1 _ _ l0_2 _ _ l1_0 x10_2 a3 t284 _ ?side1 ?side2 ?side3 ?side4 A32.out).mono ?_); (case side1 => repeat (first | exact (Kd.C_below HR0_2.out HB.out) | (with_reducible refine Kd.C_alloc ?_ _) | (with_reducible refine Kd.C_drewN ?_ _) | (with_reducible refine Kd.C_drew ?_))); (case side2 => exact HC0_2.out); (case side3 => repeat (first | exact (Kd.C_below HR1_0.out HB.out) | (with_reducible refine Kd.C_alloc ?_ _) | (with_reducible refine Kd.C_drewN ?_ _) | (with_reducible refine Kd.C_drew ?_))); (case side4 => exact HC1_0.out); rintro e w43 ⟨rfl, hb⟩; refine ⟨_, rfl, ?_⟩; have n0_ := Aside0.mk (Kd.R_below (by (with_reducible repeat (first | apply Kd.R_alloc | apply Kd.R_drewN | apply Kd.R_drew)); exact HO_9.out) hb); have n1_ := Aside0.mk (blk_below (g := gb276) (o := .cells #[.int .i64 a0_0, .int .i64 a0_1, .slice A0_2 l0_2.length c0_2] 34 (0, 0)) (by (with_reducible repeat (first | refine blk_drewN ?_ _ | refine blk_drew ?_ | refine blk_alloc ?_ _)); exact BK276.out) hb); have n2_ := Aside0.mk (blk_below (g := gb277) (o := .cells #[.slice A1_0 l1_0.length c1_0] 36 (0, 0)) (by (with_reducible repeat (first | refine blk_drewN ?_ _ | refine blk_drew ?_ | refine blk_alloc ?_ _)); exact BK277.out) hb); have n3_ := Aside0.mk (below_step (by repeat (first | (with_reducible first | exact HB.out | apply below_alloc | apply pw_below_drewN | apply below_drew1 | refine below_set ?_ GE276.out | refine below_set ?_ GE277.out) | exact HB.out)) hb); clear HO_9; clear BK276; clear BK277; clear HB; have HO_9 := n0_; have BK276 := n1_; have BK277 := n2_; have HB := n3_; clear n0_ n1_ n2_ n3_; (try clear hb); (try clear hb2); (try clear hk); (try clear hi)))
                  go_ret
                  exact ⟨_, by first | rfl | (simp [errW_none, errW_some] <;> rfl) | (simp [*, errW_none, errW_some] <;> rfl), by (with_reducible repeat (first | apply Kd.R_alloc | apply Kd.R_drewN | apply Kd.R_drew)); exact HO_9.out, by repeat (first | (with_reducible first | exact HB.out | apply below_alloc | apply pw_below_drewN | apply below_drew1 | refine below_set ?_ GE276.out | refine below_set ?_ GE277.out) | exact HB.out)⟩
                · rw [if_neg c39] at H
                  have c39b0 : (x10_2 == a3) = false := beq_eq_false_iff_ne.mpr c39
                  have c39b1 : (x10_2 != a3) = true := bne_iff_ne.mpr c39
                  obtain rfl := Option.some.inj H
                  have hnb44 := NB276_277.out
                  have hnc44 := NB277_276.out
                  have hcz45_0 : wr.cell? ⟨gb276, 0, none⟩ = some (.int .i64 a0_0) := (blk_cell BK276.out 0).trans rfl
                  have hcz45_1 : wr.cell? ⟨gb276, 1, none⟩ = some (.int .i64 a0_1) := (blk_cell BK276.out 1).trans rfl
                  have hcz45_2 : wr.cell? ⟨gb276, 2, none⟩ = some (.slice A0_2 l0_2.length c0_2) := (blk_cell BK276.out 2).trans rfl
                  have hfz45_0 := blk_frozen BK276.out 0
                  have hfz45_1 := blk_frozen BK276.out 1
                  have hfz45_2 := blk_frozen BK276.out 2
                  have hcz46_0 : wr.cell? ⟨gb277, 0, none⟩ = some (.slice A1_0 l1_0.length c1_0) := (blk_cell BK277.out 0).trans rfl
                  have hfz46_0 := blk_frozen BK277.out 0
                  go_wp2_with (first | ((with_reducible refine gate_callee (f := 109) rfl ?_); refine goesL_ (some 40) rfl rfl Try.func109 (by kernel_rfl) rfl #[.agg #[.int .i64 a0_0, .int .i64 a0_1, .slice A0_2 l0_2.length c0_2], .agg #[.slice A1_0 l1_0.length c1_0], .int .i64 x10_2, .int .i64 a3] rfl (by (try simp only [List.map_toArray, List.map_cons, List.map_nil]); first | done | rfl | (simp only [List.length_drop, List.length_take]; rfl)) ?_; (with_reducible refine (impl_PortAt.calls k2 a0_0 a0_1 _ _ l0_2 _ _ l1_0 x10_2 a3 t284 _ ?side1 ?side2 ?side3 ?side4 A32.out).mono ?_); (case side1 => repeat (first | exact (Kd.C_below HR0_2.out HB.out) | (with_reducible refine Kd.C_alloc ?_ _) | (with_reducible refine Kd.C_drewN ?_ _) | (with_reducible refine Kd.C_drew ?_))); (case side2 => exact HC0_2.out); (case side3 => repeat (first | exact (Kd.C_below HR1_0.out HB.out) | (with_reducible refine Kd.C_alloc ?_ _) | (with_reducible refine Kd.C_drewN ?_ _) | (with_reducible refine Kd.C_drew ?_))); (case side4 => exact HC1_0.out); rintro e w47 ⟨rfl, hb⟩; refine ⟨_, rfl, ?_⟩; have n0_ := Aside0.mk (Kd.R_below (by (with_reducible repeat (first | apply Kd.R_alloc | apply Kd.R_drewN | apply Kd.R_drew)); exact HO_9.out) hb); have n1_ := Aside0.mk (blk_below (g := gb276) (o := .cells #[.int .i64 a0_0, .int .i64 a0_1, .slice A0_2 l0_2.length c0_2] 34 (0, 0)) (by (with_reducible repeat (first | refine blk_drewN ?_ _ | refine blk_drew ?_ | refine blk_alloc ?_ _)); exact BK276.out) hb); have n2_ := Aside0.mk (blk_below (g := gb277) (o := .cells #[.slice A1_0 l1_0.length c1_0] 36 (0, 0)) (by (with_reducible repeat (first | refine blk_drewN ?_ _ | refine blk_drew ?_ | refine blk_alloc ?_ _)); exact BK277.out) hb); have n3_ := Aside0.mk (below_step (by repeat (first | (with_reducible first | exact HB.out | apply below_alloc | apply pw_below_drewN | apply below_drew1 | refine below_set ?_ GE276.out | refine below_set ?_ GE277.out) | exact HB.out)) hb); clear HO_9; clear BK276; clear BK277; clear HB; have HO_9 := n0_; have BK276 := n1_; have BK277 := n2_; have HB := n3_; clear n0_ n1_ n2_ n3_; (try clear hb); (try clear hb2); (try clear hk); (try clear hi)))
                  go_ret
                  exact ⟨_, by first | rfl | (simp [errW_none, errW_some] <;> rfl) | (simp [*, errW_none, errW_some] <;> rfl), by first | exact Kd.R_nil _ _ _ _ _ | exact Kd.N_nil _ _ _ _ _ | exact Kd.V_nil _ _ _ _ _ | exact Kd.Q_nil _ _ _ _ _ | exact Kd.S_nil _ _ _ _ _, by repeat (first | (with_reducible first | exact HB.out | apply below_alloc | apply pw_below_drewN | apply below_drew1 | refine below_set ?_ GE276.out | refine below_set ?_ GE277.out) | exact HB.out)⟩
              · rw [if_neg c38] at H
                have c38b0 : (t284 == 4) = false := beq_eq_false_iff_ne.mpr c38
                have c38b1 : (t284 != 4) = true := bne_iff_ne.mpr c38
                replace H := Option.bind_eq_some_iff.mp H
                obtain ⟨t285, A480, H⟩ := H
                replace H : (if t285 = true then ((impl_NodeCount.f a0_0 a0_1).bind fun t286 => (if (x9_2.length : Int) = t286 then (some ([] : List Int)) else (if x9_2.length < 17592186044416 then ((impl_endOf.f a0_0 a0_1 l0_2 (wrap64 ((wrap64 (4 * x10_2)) + t284))).bind fun t290 => (impl_WalkTable.l0 k2 a3 (x9_2 ++ [wrap64 ((wrap64 (4 * x10_2)) + t284)]) t290 a0_0 a0_1 l0_2 l1_0)) else (none)))) else (some ([] : List Int))) = some r := H
                have A48 := Aside0.mk A480
                clear A480
                by_cases c49 : t285 = true
                · subst c49
                  have H1 : ((impl_NodeCount.f a0_0 a0_1).bind fun t286 => (if (x9_2.length : Int) = t286 then (some ([] : List Int)) else (if x9_2.length < 17592186044416 then ((impl_endOf.f a0_0 a0_1 l0_2 (wrap64 ((wrap64 (4 * x10_2)) + t284))).bind fun t290 => (impl_WalkTable.l0 k2 a3 (x9_2 ++ [wrap64 ((wrap64 (4 * x10_2)) + t284)]) t290 a0_0 a0_1 l0_2 l1_0)) else (none)))) = some r := by rw [if_pos rfl] at H; exact H
                  clear H
                  have H := H1
                  clear H1
                  replace H := Option.bind_eq_some_iff.mp H
                  obtain ⟨t286, A500, H⟩ := H
                  replace H : (if (x9_2.length : Int) = t286 then (some ([] : List Int)) else (if x9_2.length < 17592186044416 then ((impl_endOf.f a0_0 a0_1 l0_2 (wrap64 ((wrap64 (4 * x10_2)) + t284))).bind fun t290 => (impl_WalkTable.l0 k2 a3 (x9_2 ++ [wrap64 ((wrap64 (4 * x10_2)) + t284)]) t290 a0_0 a0_1 l0_2 l1_0)) else (none))) = some r := H
                  have A50 := Aside0.mk A500
                  clear A500
                  by_cases c51 : (x9_2.length : Int) = t286
                  · rw [if_pos c51] at H
                    have c51b0 : ((x9_2.length : Int) == t286) = true := beq_iff_eq.mpr c51
                    have c51b1 : ((x9_2.length : Int) != t286) = false := bne_eq_false_iff_eq.mpr c51
                    clear c51
                    obtain rfl := Option.some.inj H
                    have hnb52 := NB276_277.out
                    have hnc52 := NB277_276.out
                    have hcz53_0 : wr.cell? ⟨gb276, 0, none⟩ = some (.int .i64 a0_0) := (blk_cell BK276.out 0).trans rfl
                    have hcz53_1 : wr.cell? ⟨gb276, 1, none⟩ = some (.int .i64 a0_1) := (blk_cell BK276.out 1).trans rfl
                    have hcz53_2 : wr.cell? ⟨gb276, 2, none⟩ = some (.slice A0_2 l0_2.length c0_2) := (blk_cell BK276.out 2).trans rfl
                    have hfz53_0 := blk_frozen BK276.out 0
                    have hfz53_1 := blk_frozen BK276.out 1
                    have hfz53_2 := blk_frozen BK276.out 2
                    have hcz54_0 : wr.cell? ⟨gb277, 0, none⟩ = some (.slice A1_0 l1_0.length c1_0) := (blk_cell BK277.out 0).trans rfl
                    have hfz54_0 := blk_frozen BK277.out 0
                    go_wp2_with (first | ((with_reducible refine gate_callee (f := 109) rfl ?_); refine goesL_ (some 40) rfl rfl Try.func109 (by kernel_rfl) rfl #[.agg #[.int .i64 a0_0, .int .i64 a0_1, .slice A0_2 l0_2.length c0_2], .agg #[.slice A1_0 l1_0.length c1_0], .int .i64 x10_2, .int .i64 a3] rfl (by (try simp only [List.map_toArray, List.map_cons, List.map_nil]); first | done | rfl | (simp only [List.length_drop, List.length_take]; rfl)) ?_; (with_reducible refine (impl_PortAt.calls k2 a0_0 a0_1 _ _ l0_2 _ _ l1_0 x10_2 a3 t284 _ ?side1 ?side2 ?side3 ?side4 A32.out).mono ?_); (case side1 => repeat (first | exact (Kd.C_below HR0_2.out HB.out) | (with_reducible refine Kd.C_alloc ?_ _) | (with_reducible refine Kd.C_drewN ?_ _) | (with_reducible refine Kd.C_drew ?_))); (case side2 => exact HC0_2.out); (case side3 => repeat (first | exact (Kd.C_below HR1_0.out HB.out) | (with_reducible refine Kd.C_alloc ?_ _) | (with_reducible refine Kd.C_drewN ?_ _) | (with_reducible refine Kd.C_drew ?_))); (case side4 => exact HC1_0.out); rintro e w55 ⟨rfl, hb⟩; refine ⟨_, rfl, ?_⟩; have n0_ := Aside0.mk (Kd.R_below (by (with_reducible repeat (first | apply Kd.R_alloc | apply Kd.R_drewN | apply Kd.R_drew)); exact HO_9.out) hb); have n1_ := Aside0.mk (blk_below (g := gb276) (o := .cells #[.int .i64 a0_0, .int .i64 a0_1, .slice A0_2 l0_2.length c0_2] 34 (0, 0)) (by (with_reducible repeat (first | refine blk_drewN ?_ _ | refine blk_drew ?_ | refine blk_alloc ?_ _)); exact BK276.out) hb); have n2_ := Aside0.mk (blk_below (g := gb277) (o := .cells #[.slice A1_0 l1_0.length c1_0] 36 (0, 0)) (by (with_reducible repeat (first | refine blk_drewN ?_ _ | refine blk_drew ?_ | refine blk_alloc ?_ _)); exact BK277.out) hb); have n3_ := Aside0.mk (below_step (by repeat (first | (with_reducible first | exact HB.out | apply below_alloc | apply pw_below_drewN | apply below_drew1 | refine below_set ?_ GE276.out | refine below_set ?_ GE277.out) | exact HB.out)) hb); clear HO_9; clear BK276; clear BK277; clear HB; have HO_9 := n0_; have BK276 := n1_; have BK277 := n2_; have HB := n3_; clear n0_ n1_ n2_ n3_; (try clear hb); (try clear hb2); (try clear hk); (try clear hi); have hcz56_0 : w55.cell? ⟨gb276, 0, none⟩ = some (.int .i64 a0_0) := (blk_cell BK276.out 0).trans rfl; have hcz56_1 : w55.cell? ⟨gb276, 1, none⟩ = some (.int .i64 a0_1) := (blk_cell BK276.out 1).trans rfl; have hcz56_2 : w55.cell? ⟨gb276, 2, none⟩ = some (.slice A0_2 l0_2.length c0_2) := (blk_cell BK276.out 2).trans rfl; have hfz56_0 := blk_frozen BK276.out 0; have hfz56_1 := blk_frozen BK276.out 1; have hfz56_2 := blk_frozen BK276.out 2) | ((with_reducible refine gate_callee (f := 110) rfl ?_); refine goesL_ (some 57) rfl rfl Try.func110 (by kernel_rfl) rfl #[.agg #[.int .i64 a0_0, .int .i64 a0_1, .slice A0_2 l0_2.length c0_2], .int .i64 (wrap64 ((wrap64 (4 * x10_2)) + t284))] rfl (by (try simp only [List.map_toArray, List.map_cons, List.map_nil]); first | done | rfl | (simp only [List.length_drop, List.length_take]; rfl)) ?_; (with_reducible refine (impl_HasChannel.calls k2 a0_0 a0_1 _ _ l0_2 (wrap64 ((wrap64 (4 * x10_2)) + t284)) true _ ?side1 ?side2 A48.out).mono ?_); (case side1 => repeat (first | exact (Kd.C_below HR0_2.out HB.out) | (with_reducible refine Kd.C_alloc ?_ _) | (with_reducible refine Kd.C_drewN ?_ _) | (with_reducible refine Kd.C_drew ?_))); (case side2 => exact HC0_2.out); rintro e w57 ⟨rfl, hb⟩; refine ⟨_, rfl, ?_⟩; have n0_ := Aside0.mk (Kd.R_below (by (with_reducible repeat (first | apply Kd.R_alloc | apply Kd.R_drewN | apply Kd.R_drew)); exact HO_9.out) hb); have n1_ := Aside0.mk (blk_below (g := gb276) (o := .cells #[.int .i64 a0_0, .int .i64 a0_1, .slice A0_2 l0_2.length c0_2] 34 (0, 0)) (by (with_reducible repeat (first | refine blk_drewN ?_ _ | refine blk_drew ?_ | refine blk_alloc ?_ _)); exact BK276.out) hb); have n2_ := Aside0.mk (blk_below (g := gb277) (o := .cells #[.slice A1_0 l1_0.length c1_0] 36 (0, 0)) (by (with_reducible repeat (first | refine blk_drewN ?_ _ | refine blk_drew ?_ | refine blk_alloc ?_ _)); exact BK277.out) hb); have n3_ := Aside0.mk (below_step (by repeat (first | (with_reducible first | exact HB.out | apply below_alloc | apply pw_below_drewN | apply below_drew1 | refine below_set ?_ GE276.out | refine below_set ?_ GE277.out) | exact HB.out)) hb); clear HO_9; clear BK276; clear BK277; clear HB; have HO_9 := n0_; have BK276 := n1_; have BK277 := n2_; have HB := n3_; clear n0_ n1_ n2_ n3_; (try clear hb); (try clear hb2); (try clear hk); (try clear hi); obtain ⟨Ao58, co58, eo58⟩ := Kd.R_slice HO_9.out; subst eo58; have hcz59_0 : w57.cell? ⟨gb276, 0, none⟩ = some (.int .i64 a0_0) := (blk_cell BK276.out 0).trans rfl; have hcz59_1 : w57.cell? ⟨gb276, 1, none⟩ = some (.int .i64 a0_1) := (blk_cell BK276.out 1).trans rfl; have hcz59_2 : w57.cell? ⟨gb276, 2, none⟩ = some (.slice A0_2 l0_2.length c0_2) := (blk_cell BK276.out 2).trans rfl; have hfz59_0 := blk_frozen BK276.out 0; have hfz59_1 := blk_frozen BK276.out 1; have hfz59_2 := blk_frozen BK276.out 2) | (go_at_call 99; (with_reducible refine (impl_NodeCount.calls a0_0 a0_1 t286 _ A50.out).mono ?_); rintro e w60 ⟨rfl, hb⟩; have n0_ := Aside0.mk (Kd.R_below (by (with_reducible repeat (first | apply Kd.R_alloc | apply Kd.R_drewN | apply Kd.R_drew)); exact HO_9.out) hb); have n1_ := Aside0.mk (blk_below (g := gb276) (o := .cells #[.int .i64 a0_0, .int .i64 a0_1, .slice A0_2 l0_2.length c0_2] 34 (0, 0)) (by (with_reducible repeat (first | refine blk_drewN ?_ _ | refine blk_drew ?_ | refine blk_alloc ?_ _)); exact BK276.out) hb); have n2_ := Aside0.mk (blk_below (g := gb277) (o := .cells #[.slice A1_0 l1_0.length c1_0] 36 (0, 0)) (by (with_reducible repeat (first | refine blk_drewN ?_ _ | refine blk_drew ?_ | refine blk_alloc ?_ _)); exact BK277.out) hb); have n3_ := Aside0.mk (below_step (by repeat (first | (with_reducible first | exact HB.out | apply below_alloc | apply pw_below_drewN | apply below_drew1 | refine below_set ?_ GE276.out | refine below_set ?_ GE277.out) | exact HB.out)) hb); clear HO_9; clear BK276; clear BK277; clear HB; have HO_9 := n0_; have BK276 := n1_; have BK277 := n2_; have HB := n3_; clear n0_ n1_ n2_ n3_; (try clear hb); (try clear hb2); (try clear hk); (try clear hi)))
                    go_ret
                    exact ⟨_, by first | rfl | (simp [errW_none, errW_some] <;> rfl) | (simp [*, errW_none, errW_some] <;> rfl), by first | exact Kd.R_nil _ _ _ _ _ | exact Kd.N_nil _ _ _ _ _ | exact Kd.V_nil _ _ _ _ _ | exact Kd.Q_nil _ _ _ _ _ | exact Kd.S_nil _ _ _ _ _, by repeat (first | (with_reducible first | exact HB.out | apply below_alloc | apply pw_below_drewN | apply below_drew1 | refine below_set ?_ GE276.out | refine below_set ?_ GE277.out) | exact HB.out)⟩
                  · rw [if_neg c51] at H
                    have c51b0 : ((x9_2.length : Int) == t286) = false := beq_eq_false_iff_ne.mpr c51
                    have c51b1 : ((x9_2.length : Int) != t286) = true := bne_iff_ne.mpr c51
                    by_cases c61 : x9_2.length < 17592186044416
                    · rw [if_pos c61] at H
                      have LMc61 := Aside0.mk c61
                      clear c61
                      obtain ⟨y287, hy287⟩ : ∃ y_ : List Int, y_ = (x9_2 ++ [wrap64 ((wrap64 (4 * x10_2)) + t284)]) := ⟨_, rfl⟩
                      replace H : ((impl_endOf.f a0_0 a0_1 l0_2 (wrap64 ((wrap64 (4 * x10_2)) + t284))).bind fun t290 => (impl_WalkTable.l0 k2 a3 y287 t290 a0_0 a0_1 l0_2 l1_0)) = some r := by first | (rw [hy287]; with_reducible exact H) | (have H2_ := (Option.bind_some _ _).symm.trans H; rw [hy287]; with_reducible exact H2_) | (have H2_ := (Option.bind_some _ _).symm.trans H; with_reducible exact H2_) | with_reducible exact H | (rw [hy287]; exact H) | exact H
                      have Ny287 := Aside0.mk hy287
                      clear hy287
                      replace H := Option.bind_eq_some_iff.mp H
                      obtain ⟨t290, A620, H⟩ := H
                      replace H : (impl_WalkTable.l0 k2 a3 y287 t290 a0_0 a0_1 l0_2 l1_0) = some r := H
                      have A62 := Aside0.mk A620
                      clear A620
                      have H' := Aside0.mk H
                      clear H
                      have hnb63 := NB276_277.out
                      have hnc63 := NB277_276.out
                      have hcz64_0 : wr.cell? ⟨gb276, 0, none⟩ = some (.int .i64 a0_0) := (blk_cell BK276.out 0).trans rfl
                      have hcz64_1 : wr.cell? ⟨gb276, 1, none⟩ = some (.int .i64 a0_1) := (blk_cell BK276.out 1).trans rfl
                      have hcz64_2 : wr.cell? ⟨gb276, 2, none⟩ = some (.slice A0_2 l0_2.length c0_2) := (blk_cell BK276.out 2).trans rfl
                      have hfz64_0 := blk_frozen BK276.out 0
                      have hfz64_1 := blk_frozen BK276.out 1
                      have hfz64_2 := blk_frozen BK276.out 2
                      have hcz65_0 : wr.cell? ⟨gb277, 0, none⟩ = some (.slice A1_0 l1_0.length c1_0) := (blk_cell BK277.out 0).trans rfl
                      have hfz65_0 := blk_frozen BK277.out 0
                      go_wp2_with (first | ((with_reducible refine gate_callee (f := 109) rfl ?_); refine goesL_ (some 40) rfl rfl Try.func109 (by kernel_rfl) rfl #[.agg #[.int .i64 a0_0, .int .i64 a0_1, .slice A0_2 l0_2.length c0_2], .agg #[.slice A1_0 l1_0.length c1_0], .int .i64 x10_2, .int .i64 a3] rfl (by (try simp only [List.map_toArray, List.map_cons, List.map_nil]); first | done | rfl | (simp only [List.length_drop, List.length_take]; rfl)) ?_; (with_reducible refine (impl_PortAt.calls k2 a0_0 a0_1 _ _ l0_2 _ _ l1_0 x10_2 a3 t284 _ ?side1 ?side2 ?side3 ?side4 A32.out).mono ?_); (case side1 => repeat (first | exact (Kd.C_below HR0_2.out HB.out) | (with_reducible refine Kd.C_alloc ?_ _) | (with_reducible refine Kd.C_drewN ?_ _) | (with_reducible refine Kd.C_drew ?_))); (case side2 => exact HC0_2.out); (case side3 => repeat (first | exact (Kd.C_below HR1_0.out HB.out) | (with_reducible refine Kd.C_alloc ?_ _) | (with_reducible refine Kd.C_drewN ?_ _) | (with_reducible refine Kd.C_drew ?_))); (case side4 => exact HC1_0.out); rintro e w66 ⟨rfl, hb⟩; refine ⟨_, rfl, ?_⟩; have n0_ := Aside0.mk (Kd.R_below (by (with_reducible repeat (first | apply Kd.R_alloc | apply Kd.R_drewN | apply Kd.R_drew)); exact HO_9.out) hb); have n1_ := Aside0.mk (blk_below (g := gb276) (o := .cells #[.int .i64 a0_0, .int .i64 a0_1, .slice A0_2 l0_2.length c0_2] 34 (0, 0)) (by (with_reducible repeat (first | refine blk_drewN ?_ _ | refine blk_drew ?_ | refine blk_alloc ?_ _)); exact BK276.out) hb); have n2_ := Aside0.mk (blk_below (g := gb277) (o := .cells #[.slice A1_0 l1_0.length c1_0] 36 (0, 0)) (by (with_reducible repeat (first | refine blk_drewN ?_ _ | refine blk_drew ?_ | refine blk_alloc ?_ _)); exact BK277.out) hb); have n3_ := Aside0.mk (below_step (by repeat (first | (with_reducible first | exact HB.out | apply below_alloc | apply pw_below_drewN | apply below_drew1 | refine below_set ?_ GE276.out | refine below_set ?_ GE277.out) | exact HB.out)) hb); clear HO_9; clear BK276; clear BK277; clear HB; have HO_9 := n0_; have BK276 := n1_; have BK277 := n2_; have HB := n3_; clear n0_ n1_ n2_ n3_; (try clear hb); (try clear hb2); (try clear hk); (try clear hi); have hcz67_0 : w66.cell? ⟨gb276, 0, none⟩ = some (.int .i64 a0_0) := (blk_cell BK276.out 0).trans rfl; have hcz67_1 : w66.cell? ⟨gb276, 1, none⟩ = some (.int .i64 a0_1) := (blk_cell BK276.out 1).trans rfl; have hcz67_2 : w66.cell? ⟨gb276, 2, none⟩ = some (.slice A0_2 l0_2.length c0_2) := (blk_cell BK276.out 2).trans rfl; have hfz67_0 := blk_frozen BK276.out 0; have hfz67_1 := blk_frozen BK276.out 1; have hfz67_2 := blk_frozen BK276.out 2) | ((with_reducible refine gate_callee (f := 110) rfl ?_); refine goesL_ (some 57) rfl rfl Try.func110 (by kernel_rfl) rfl #[.agg #[.int .i64 a0_0, .int .i64 a0_1, .slice A0_2 l0_2.length c0_2], .int .i64 (wrap64 ((wrap64 (4 * x10_2)) + t284))] rfl (by (try simp only [List.map_toArray, List.map_cons, List.map_nil]); first | done | rfl | (simp only [List.length_drop, List.length_take]; rfl)) ?_; (with_reducible refine (impl_HasChannel.calls k2 a0_0 a0_1 _ _ l0_2 (wrap64 ((wrap64 (4 * x10_2)) + t284)) true _ ?side1 ?side2 A48.out).mono ?_); (case side1 => repeat (first | exact (Kd.C_below HR0_2.out HB.out) | (with_reducible refine Kd.C_alloc ?_ _) | (with_reducible refine Kd.C_drewN ?_ _) | (with_reducible refine Kd.C_drew ?_))); (case side2 => exact HC0_2.out); rintro e w68 ⟨rfl, hb⟩; refine ⟨_, rfl, ?_⟩; have n0_ := Aside0.mk (Kd.R_below (by (with_reducible repeat (first | apply Kd.R_alloc | apply Kd.R_drewN | apply Kd.R_drew)); exact HO_9.out) hb); have n1_ := Aside0.mk (blk_below (g := gb276) (o := .cells #[.int .i64 a0_0, .int .i64 a0_1, .slice A0_2 l0_2.length c0_2] 34 (0, 0)) (by (with_reducible repeat (first | refine blk_drewN ?_ _ | refine blk_drew ?_ | refine blk_alloc ?_ _)); exact BK276.out) hb); have n2_ := Aside0.mk (blk_below (g := gb277) (o := .cells #[.slice A1_0 l1_0.length c1_0] 36 (0, 0)) (by (with_reducible repeat (first | refine blk_drewN ?_ _ | refine blk_drew ?_ | refine blk_alloc ?_ _)); exact BK277.out) hb); have n3_ := Aside0.mk (below_step (by repeat (first | (with_reducible first | exact HB.out | apply below_alloc | apply pw_below_drewN | apply below_drew1 | refine below_set ?_ GE276.out | refine below_set ?_ GE277.out) | exact HB.out)) hb); clear HO_9; clear BK276; clear BK277; clear HB; have HO_9 := n0_; have BK276 := n1_; have BK277 := n2_; have HB := n3_; clear n0_ n1_ n2_ n3_; (try clear hb); (try clear hb2); (try clear hk); (try clear hi); obtain ⟨Ao69, co69, eo69⟩ := Kd.R_slice HO_9.out; subst eo69; have hcz70_0 : w68.cell? ⟨gb276, 0, none⟩ = some (.int .i64 a0_0) := (blk_cell BK276.out 0).trans rfl; have hcz70_1 : w68.cell? ⟨gb276, 1, none⟩ = some (.int .i64 a0_1) := (blk_cell BK276.out 1).trans rfl; have hcz70_2 : w68.cell? ⟨gb276, 2, none⟩ = some (.slice A0_2 l0_2.length c0_2) := (blk_cell BK276.out 2).trans rfl; have hfz70_0 := blk_frozen BK276.out 0; have hfz70_1 := blk_frozen BK276.out 1; have hfz70_2 := blk_frozen BK276.out 2) | (go_at_call 99; (with_reducible refine (impl_NodeCount.calls a0_0 a0_1 t286 _ A50.out).mono ?_); rintro e w71 ⟨rfl, hb⟩; have n0_ := Aside0.mk (Kd.R_below (by (with_reducible repeat (first | apply Kd.R_alloc | apply Kd.R_drewN | apply Kd.R_drew)); exact HO_9.out) hb); have n1_ := Aside0.mk (blk_below (g := gb276) (o := .cells #[.int .i64 a0_0, .int .i64 a0_1, .slice A0_2 l0_2.length c0_2] 34 (0, 0)) (by (with_reducible repeat (first | refine blk_drewN ?_ _ | refine blk_drew ?_ | refine blk_alloc ?_ _)); exact BK276.out) hb); have n2_ := Aside0.mk (blk_below (g := gb277) (o := .cells #[.slice A1_0 l1_0.length c1_0] 36 (0, 0)) (by (with_reducible repeat (first | refine blk_drewN ?_ _ | refine blk_drew ?_ | refine blk_alloc ?_ _)); exact BK277.out) hb); have n3_ := Aside0.mk (below_step (by repeat (first | (with_reducible first | exact HB.out | apply below_alloc | apply pw_below_drewN | apply below_drew1 | refine below_set ?_ GE276.out | refine below_set ?_ GE277.out) | exact HB.out)) hb); clear HO_9; clear BK276; clear BK277; clear HB; have HO_9 := n0_; have BK276 := n1_; have BK277 := n2_; have HB := n3_; clear n0_ n1_ n2_ n3_; (try clear hb); (try clear hb2); (try clear hk); (try clear hi)) | ((with_reducible refine gate_builtin (b := .append) (xs := #[.tmp 67, .tmp 72]) rfl ?_); (try (refine gate_guard (by rfl) ?_; dsimp only)); at_builtin; refine Kd.R_append (Kd.int .i64) (w0 := w) w.heap.size rfl (.tmp 67) (.tmp 72) 24 3 (.int .i64 0) 8 rfl Try.underlying24 info3 rfl (by decide) (by omega) (.slice Ao69 x9_2.length co69) x9_2 (wrap64 ((wrap64 (4 * x10_2)) + t284)) [.int .i64 (wrap64 ((wrap64 (4 * x10_2)) + t284))] (fun _ => True) (fun _ => False) rfl rfl ?aP (fun _ hk => hk.elim) ?aF ?aO ?aB ?aS ?aL ?_; (case aP => exact rfl); (case aB => exact (by repeat (first | (with_reducible first | exact HB.out | apply below_alloc | apply pw_below_drewN | apply below_drew1 | refine below_set ?_ GE276.out | refine below_set ?_ GE277.out) | exact HB.out))); (case aF => exact (fun _ _ => trivial)); (case aO => exact (by (with_reducible repeat (first | apply Kd.R_alloc | apply Kd.R_drewN | apply Kd.R_drew)); exact HO_9.out)); (case aS => exact (below_size (by repeat (first | (with_reducible first | exact HB.out | apply below_alloc | apply pw_below_drewN | apply below_drew1 | refine below_set ?_ GE276.out | refine below_set ?_ GE277.out) | exact HB.out)))); (case aL => have := LMc61.out; omega); intro v288 w72 ho hb hg hat; rw [← Ny287.out] at ho; have n0_ := Aside0.mk (blk_grown (g := gb276) (o := .cells #[.int .i64 a0_0, .int .i64 a0_1, .slice A0_2 l0_2.length c0_2] 34 (0, 0)) (by (with_reducible repeat (first | refine blk_drewN ?_ _ | refine blk_drew ?_ | refine blk_alloc ?_ _)); exact BK276.out) hg (Kd.R_ne HO_9.out BK276.out (by decide))); have n1_ := Aside0.mk (blk_grown (g := gb277) (o := .cells #[.slice A1_0 l1_0.length c1_0] 36 (0, 0)) (by (with_reducible repeat (first | refine blk_drewN ?_ _ | refine blk_drew ?_ | refine blk_alloc ?_ _)); exact BK277.out) hg (Kd.R_ne HO_9.out BK277.out (by decide))); have n2_ := Aside0.mk (hb); have n3_ := Aside0.mk (ho); clear BK276; clear BK277; clear HB; clear HO_9; have BK276 := n0_; have BK277 := n1_; have HB := n2_; have HO289 := n3_; clear n0_ n1_ n2_ n3_; clear ho hb hg hat; have hcz73_0 : w72.cell? ⟨gb276, 0, none⟩ = some (.int .i64 a0_0) := (blk_cell BK276.out 0).trans rfl; have hcz73_1 : w72.cell? ⟨gb276, 1, none⟩ = some (.int .i64 a0_1) := (blk_cell BK276.out 1).trans rfl; have hcz73_2 : w72.cell? ⟨gb276, 2, none⟩ = some (.slice A0_2 l0_2.length c0_2) := (blk_cell BK276.out 2).trans rfl; have hfz73_0 := blk_frozen BK276.out 0; have hfz73_1 := blk_frozen BK276.out 1; have hfz73_2 := blk_frozen BK276.out 2) | ((with_reducible refine gate_callee (f := 111) rfl ?_); refine goesL_ (some 79) rfl rfl Try.func111 (by kernel_rfl) rfl #[.agg #[.int .i64 a0_0, .int .i64 a0_1, .slice A0_2 l0_2.length c0_2], .int .i64 (wrap64 ((wrap64 (4 * x10_2)) + t284))] rfl (by (try simp only [List.map_toArray, List.map_cons, List.map_nil]); first | done | rfl | (simp only [List.length_drop, List.length_take]; rfl)) ?_; (with_reducible refine (impl_endOf.calls a0_0 a0_1 _ _ l0_2 (wrap64 ((wrap64 (4 * x10_2)) + t284)) t290 _ ?side1 ?side2 A62.out).mono ?_); (case side1 => repeat (first | exact (Kd.C_below HR0_2.out HB.out) | (with_reducible refine Kd.C_alloc ?_ _) | (with_reducible refine Kd.C_drewN ?_ _) | (with_reducible refine Kd.C_drew ?_))); (case side2 => exact HC0_2.out); rintro e w74 ⟨rfl, hb⟩; refine ⟨_, rfl, ?_⟩; have n0_ := Aside0.mk (Kd.R_below (by (with_reducible repeat (first | apply Kd.R_alloc | apply Kd.R_drewN | apply Kd.R_drew)); exact HO289.out) hb); have n1_ := Aside0.mk (blk_below (g := gb276) (o := .cells #[.int .i64 a0_0, .int .i64 a0_1, .slice A0_2 l0_2.length c0_2] 34 (0, 0)) (by (with_reducible repeat (first | refine blk_drewN ?_ _ | refine blk_drew ?_ | refine blk_alloc ?_ _)); exact BK276.out) hb); have n2_ := Aside0.mk (blk_below (g := gb277) (o := .cells #[.slice A1_0 l1_0.length c1_0] 36 (0, 0)) (by (with_reducible repeat (first | refine blk_drewN ?_ _ | refine blk_drew ?_ | refine blk_alloc ?_ _)); exact BK277.out) hb); have n3_ := Aside0.mk (below_step (by repeat (first | (with_reducible first | exact HB.out | apply below_alloc | apply pw_below_drewN | apply below_drew1 | refine below_set ?_ GE276.out | refine below_set ?_ GE277.out) | exact HB.out)) hb); clear HO289; clear BK276; clear BK277; clear HB; have HO289 := n0_; have BK276 := n1_; have BK277 := n2_; have HB := n3_; clear n0_ n1_ n2_ n3_; (try clear hb); (try clear hb2); (try clear hk); (try clear hi)))
                      go_roundg k2
                      case measure => have := HJ4.out; have := HK2.out; omega
                      case rel => exact ⟨(y287), (t290), (by first | rfl | (simp; done) | (simp [*]; done)), H', ⟨by have := HJ4.out; have := HK2.out; omega⟩, ⟨by (with_reducible repeat (first | apply Kd.R_alloc | apply Kd.R_drewN | apply Kd.R_drew)); exact HO289.out⟩, ⟨by (with_reducible repeat (first | refine blk_drewN ?_ _ | refine blk_drew ?_ | refine blk_alloc ?_ _)); exact BK276.out⟩, ⟨by (with_reducible repeat (first | refine blk_drewN ?_ _ | refine blk_drew ?_ | refine blk_alloc ?_ _)); exact BK277.out⟩, ⟨by repeat (first | (with_reducible first | exact HB.out | apply below_alloc | apply pw_below_drewN | apply below_drew1 | refine below_set ?_ GE276.out | refine below_set ?_ GE277.out) | exact HB.out)⟩⟩
                    · rw [if_neg c61] at H
                      exact absurd H (by simp)
                · replace c49 := Bool.eq_false_iff.mpr c49
                  subst c49
                  have H1 : (some ([] : List Int)) = some r := by rw [if_neg (show ¬ (false = true) by decide)] at H; exact H
                  clear H
                  have H := H1
                  clear H1
                  obtain rfl := Option.some.inj H
                  have hnb75 := NB276_277.out
                  have hnc75 := NB277_276.out
                  have hcz76_0 : wr.cell? ⟨gb276, 0, none⟩ = some (.int .i64 a0_0) := (blk_cell BK276.out 0).trans rfl
                  have hcz76_1 : wr.cell? ⟨gb276, 1, none⟩ = some (.int .i64 a0_1) := (blk_cell BK276.out 1).trans rfl
                  have hcz76_2 : wr.cell? ⟨gb276, 2, none⟩ = some (.slice A0_2 l0_2.length c0_2) := (blk_cell BK276.out 2).trans rfl
                  have hfz76_0 := blk_frozen BK276.out 0
                  have hfz76_1 := blk_frozen BK276.out 1
                  have hfz76_2 := blk_frozen BK276.out 2
                  have hcz77_0 : wr.cell? ⟨gb277, 0, none⟩ = some (.slice A1_0 l1_0.length c1_0) := (blk_cell BK277.out 0).trans rfl
                  have hfz77_0 := blk_frozen BK277.out 0
                  go_wp2_with (first | ((with_reducible refine gate_callee (f := 109) rfl ?_); refine goesL_ (some 40) rfl rfl Try.func109 (by kernel_rfl) rfl #[.agg #[.int .i64 a0_0, .int .i64 a0_1, .slice A0_2 l0_2.length c0_2], .agg #[.slice A1_0 l1_0.length c1_0], .int .i64 x10_2, .int .i64 a3] rfl (by (try simp only [List.map_toArray, List.map_cons, List.map_nil]); first | done | rfl | (simp only [List.length_drop, List.length_take]; rfl)) ?_; (with_reducible refine (impl_PortAt.calls k2 a0_0 a0_1 _ _ l0_2 _ _ l1_0 x10_2 a3 t284 _ ?side1 ?side2 ?side3 ?side4 A32.out).mono ?_); (case side1 => repeat (first | exact (Kd.C_below HR0_2.out HB.out) | (with_reducible refine Kd.C_alloc ?_ _) | (with_reducible refine Kd.C_drewN ?_ _) | (with_reducible refine Kd.C_drew ?_))); (case side2 => exact HC0_2.out); (case side3 => repeat (first | exact (Kd.C_below HR1_0.out HB.out) | (with_reducible refine Kd.C_alloc ?_ _) | (with_reducible refine Kd.C_drewN ?_ _) | (with_reducible refine Kd.C_drew ?_))); (case side4 => exact HC1_0.out); rintro e w78 ⟨rfl, hb⟩; refine ⟨_, rfl, ?_⟩; have n0_ := Aside0.mk (Kd.R_below (by (with_reducible repeat (first | apply Kd.R_alloc | apply Kd.R_drewN | apply Kd.R_drew)); exact HO_9.out) hb); have n1_ := Aside0.mk (blk_below (g := gb276) (o := .cells #[.int .i64 a0_0, .int .i64 a0_1, .slice A0_2 l0_2.length c0_2] 34 (0, 0)) (by (with_reducible repeat (first | refine blk_drewN ?_ _ | refine blk_drew ?_ | refine blk_alloc ?_ _)); exact BK276.out) hb); have n2_ := Aside0.mk (blk_below (g := gb277) (o := .cells #[.slice A1_0 l1_0.length c1_0] 36 (0, 0)) (by (with_reducible repeat (first | refine blk_drewN ?_ _ | refine blk_drew ?_ | refine blk_alloc ?_ _)); exact BK277.out) hb); have n3_ := Aside0.mk (below_step (by repeat (first | (with_reducible first | exact HB.out | apply below_alloc | apply pw_below_drewN | apply below_drew1 | refine below_set ?_ GE276.out | refine below_set ?_ GE277.out) | exact HB.out)) hb); clear HO_9; clear BK276; clear BK277; clear HB; have HO_9 := n0_; have BK276 := n1_; have BK277 := n2_; have HB := n3_; clear n0_ n1_ n2_ n3_; (try clear hb); (try clear hb2); (try clear hk); (try clear hi); have hcz79_0 : w78.cell? ⟨gb276, 0, none⟩ = some (.int .i64 a0_0) := (blk_cell BK276.out 0).trans rfl; have hcz79_1 : w78.cell? ⟨gb276, 1, none⟩ = some (.int .i64 a0_1) := (blk_cell BK276.out 1).trans rfl; have hcz79_2 : w78.cell? ⟨gb276, 2, none⟩ = some (.slice A0_2 l0_2.length c0_2) := (blk_cell BK276.out 2).trans rfl; have hfz79_0 := blk_frozen BK276.out 0; have hfz79_1 := blk_frozen BK276.out 1; have hfz79_2 := blk_frozen BK276.out 2) | ((with_reducible refine gate_callee (f := 110) rfl ?_); refine goesL_ (some 57) rfl rfl Try.func110 (by kernel_rfl) rfl #[.agg #[.int .i64 a0_0, .int .i64 a0_1, .slice A0_2 l0_2.length c0_2], .int .i64 (wrap64 ((wrap64 (4 * x10_2)) + t284))] rfl (by (try simp only [List.map_toArray, List.map_cons, List.map_nil]); first | done | rfl | (simp only [List.length_drop, List.length_take]; rfl)) ?_; (with_reducible refine (impl_HasChannel.calls k2 a0_0 a0_1 _ _ l0_2 (wrap64 ((wrap64 (4 * x10_2)) + t284)) false _ ?side1 ?side2 A48.out).mono ?_); (case side1 => repeat (first | exact (Kd.C_below HR0_2.out HB.out) | (with_reducible refine Kd.C_alloc ?_ _) | (with_reducible refine Kd.C_drewN ?_ _) | (with_reducible refine Kd.C_drew ?_))); (case side2 => exact HC0_2.out); rintro e w80 ⟨rfl, hb⟩; refine ⟨_, rfl, ?_⟩; have n0_ := Aside0.mk (Kd.R_below (by (with_reducible repeat (first | apply Kd.R_alloc | apply Kd.R_drewN | apply Kd.R_drew)); exact HO_9.out) hb); have n1_ := Aside0.mk (blk_below (g := gb276) (o := .cells #[.int .i64 a0_0, .int .i64 a0_1, .slice A0_2 l0_2.length c0_2] 34 (0, 0)) (by (with_reducible repeat (first | refine blk_drewN ?_ _ | refine blk_drew ?_ | refine blk_alloc ?_ _)); exact BK276.out) hb); have n2_ := Aside0.mk (blk_below (g := gb277) (o := .cells #[.slice A1_0 l1_0.length c1_0] 36 (0, 0)) (by (with_reducible repeat (first | refine blk_drewN ?_ _ | refine blk_drew ?_ | refine blk_alloc ?_ _)); exact BK277.out) hb); have n3_ := Aside0.mk (below_step (by repeat (first | (with_reducible first | exact HB.out | apply below_alloc | apply pw_below_drewN | apply below_drew1 | refine below_set ?_ GE276.out | refine below_set ?_ GE277.out) | exact HB.out)) hb); clear HO_9; clear BK276; clear BK277; clear HB; have HO_9 := n0_; have BK276 := n1_; have BK277 := n2_; have HB := n3_; clear n0_ n1_ n2_ n3_; (try clear hb); (try clear hb2); (try clear hk); (try clear hi)))
                  go_ret
                  exact ⟨_, by first | rfl | (simp [errW_none, errW_some] <;> rfl) | (simp [*, errW_none, errW_some] <;> rfl), by first | exact Kd.R_nil _ _ _ _ _ | exact Kd.N_nil _ _ _ _ _ | exact Kd.V_nil _ _ _ _ _ | exact Kd.Q_nil _ _ _ _ _ | exact Kd.S_nil _ _ _ _ _, by repeat (first | (with_reducible first | exact HB.out | apply below_alloc | apply pw_below_drewN | apply below_drew1 | refine below_set ?_ GE276.out | refine below_set ?_ GE277.out) | exact HB.out)⟩


-- NOT PRINTED: function 103 (impl_TableOk_1)


/-! ### impl_TableOk: function 44 (by hand) -/
def impl_TableOk.l0 : Nat → Int → Int → List Int → Option (Bool)
  | 0, _, _, _ => none
  | k + 1, n, i, p => if i < n then (if 0 ≤ (wrap64 ((wrap64 (i * n)) + i)) then (if (wrap64 ((wrap64 (i * n)) + i)) < (p.length : Int) then (if (rd p (wrap64 ((wrap64 (i * n)) + i))) = 4 then (impl_TableOk.l0 k n (wrap64 (i + 1)) p) else (some false)) else (none)) else (none)) else (some true)
def impl_TableOk.wk (k : Nat) (w h : Int) (l p : List Int) : List (Int × Int) → Option (Bool)
  | [] => some true
  | (a, b) :: r => (impl_WalkTable.f k w h l p a b).bind fun x => (if (x.length : Int) > 0 then (impl_TableOk.wk k w h l p r) else (some false))
def impl_TableOk.f (k : Nat) (a0_0 : Int) (a0_1 : Int) (l0_2 : List Int) (l1_0 : List Int) : Option (Bool) := (impl_NodeCount.f a0_0 a0_1).bind fun n => ((impl_MeshOk.f k a0_0 a0_1 l0_2).bind fun m => (if m = true then (if (l1_0.length : Int) = (wrap64 (n * n)) then ((impl_TableOk.l0 k n 0 l1_0).bind fun d => (if d = true then (impl_TableOk.wk k a0_0 a0_1 l0_2 l1_0 (pall n.toNat 0)) else (some false))) else (some false)) else (some false)))
theorem impl_TableOk.mono_l : ∀ k, (∀ y0 y1 y2, LeO (impl_TableOk.l0 k y0 y1 y2) (impl_TableOk.l0 (k + 1) y0 y1 y2))
  | 0 => fun _ _ _ r h => by simp [impl_TableOk.l0] at h
  | k + 1 => by
    have ih0 := impl_TableOk.mono_l k
    intro y0 y1 y2
    unfold impl_TableOk.l0
    repeat' first
      | (with_reducible exact ih0 _ _ _)
      | (with_reducible exact LeO.refl _)
      | (with_reducible exact LeO.none _)
      | (with_reducible refine LeO.ite ?_ ?_)
      | (with_reducible refine LeO.bind ?_ (fun _ => ?_))
theorem impl_TableOk.mono_w (w h : Int) (l p : List Int) (k : Nat) : ∀ r, LeO (impl_TableOk.wk k w h l p r) (impl_TableOk.wk (k + 1) w h l p r)
  | [] => LeO.refl _
  | (a, b) :: r => by
    have ih := impl_TableOk.mono_w w h l p k r
    unfold impl_TableOk.wk
    exact LeO.bind (impl_WalkTable.mono _ _ _ _ _ _ _) (fun x => LeO.ite ih (LeO.refl _))
theorem impl_TableOk.mono : ∀ a0 a1 a2 a3 k, LeO (impl_TableOk.f k a0 a1 a2 a3) (impl_TableOk.f (k + 1) a0 a1 a2 a3) := by
  intro a0 a1 a2 a3 k
  unfold impl_TableOk.f
  exact LeO.bind (LeO.refl _) fun _ => LeO.bind (impl_MeshOk.mono _ _ _ _) fun _ => LeO.ite (LeO.ite (LeO.bind (impl_TableOk.mono_l k _ _ _) fun _ => LeO.ite (impl_TableOk.mono_w _ _ _ _ _ _) (LeO.refl _)) (LeO.refl _)) (LeO.refl _)
theorem nodes_nat {w h n : Int} (hn : impl_NodeCount.f w h = some n) : ∃ m : Nat, n = (m : Int) ∧ m ≤ 16 := by
  unfold impl_NodeCount.f impl_GridOk.f impl_inside.f at hn
  by_cases h1 : 1 ≤ w
  · by_cases h2 : w ≤ 4
    · by_cases h3 : 1 ≤ h
      · by_cases h4 : h ≤ 4
        · have hw : w = 1 ∨ w = 2 ∨ w = 3 ∨ w = 4 := by omega
          have hh : h = 1 ∨ h = 2 ∨ h = 3 ∨ h = 4 := by omega
          rcases hw with rfl | rfl | rfl | rfl <;> rcases hh with rfl | rfl | rfl | rfl <;> simp [wrap64] at hn <;> exact ⟨n.toNat, by omega, by omega⟩
        · simp [h1, h2, h3, h4] at hn; exact ⟨0, by omega, by omega⟩
      · simp [h1, h2, h3] at hn; exact ⟨0, by omega, by omega⟩
    · simp [h1, h2] at hn; exact ⟨0, by omega, by omega⟩
  · simp [h1] at hn; exact ⟨0, by omega, by omega⟩
set_option maxHeartbeats 8000000 in
set_option maxRecDepth 100000 in
/-- the visitor of TableOk: does a walk lead there -/
theorem impl_TableOk.clo (k : Nat) (w h : Int) (A : Option Addr) (c : Nat) (l : List Int) (A1 : Option Addr) (c1 : Nat) (p : List Int) (a b : Int) (x : List Int) (bm bt : Nat) (W : World)
    (bk1 : W.heap[bm]? = some (.cells #[.int .i64 w, .int .i64 h, .slice A l.length c] 34 (0, 0))) (bk2 : W.heap[bt]? = some (.cells #[.slice A1 p.length c1] 36 (0, 0)))
    (hr : Kd.C (Kd.int .i64) W A l.length l) (hc : l.length ≤ c) (hr1 : Kd.C (Kd.int .i64) W A1 p.length p) (hc1 : p.length ≤ c1) (hx : impl_WalkTable.f k w h l p a b = some x) :
    Calls Try.prog 103 #[.int .i64 a, .int .i64 b, .pointer (some ⟨bm, 0, none⟩), .pointer (some ⟨bt, 0, none⟩)] W fun e W' => e = .returned (.bool (decide ((x.length : Int) > 0))) ∧ Below W.heap.size W W' := by
  have hu1 := Try.underlying34
  have hu2 := Try.underlying36
  have HX := Aside0.mk hx
  have HR := Aside0.mk hr
  have HR1 := Aside0.mk hr1
  have BK1 := Aside0.mk bk1
  have BK2 := Aside0.mk bk2
  clear hx hr hr1 bk1 bk2
  have e0 : W.cell? ⟨bm, 0, none⟩ = some (.int .i64 w) := (blk_cell BK1.out 0).trans rfl
  have e1 : W.cell? ⟨bm, 1, none⟩ = some (.int .i64 h) := (blk_cell BK1.out 1).trans rfl
  have e2 : W.cell? ⟨bm, 2, none⟩ = some (.slice A l.length c) := (blk_cell BK1.out 2).trans rfl
  have e3 : W.cell? ⟨bt, 0, none⟩ = some (.slice A1 p.length c1) := (blk_cell BK2.out 0).trans rfl
  have HB := Aside0.mk (Below.refl W.heap.size W)
  cases hd : decide ((x.length : Int) > 0) with
  | true =>
    have hd2 : decide (0 < (x.length : Int)) = true := by simpa using hd
    have hd3 : decide (0 < x.length) = true := by simpa using hd
    clear hd
    go_enter Try.func103, Try.ntmps103
    go_wp2_with (go_at_call 52; refine (impl_WalkTable.calls k w h A c l A1 c1 p a b x _ (Kd.C_below HR.out HB.out) hc (Kd.C_below HR1.out HB.out) hc1 HX.out).mono ?_; rintro e w' ⟨v, rfl, ho, hb⟩; obtain ⟨A2, c2, rfl, hl2, _⟩ := Kd.R_reads ho; clear ho; have HB2 := Aside0.mk hb; clear hb)
    go_ret
    exact ⟨by first | rfl | (simp; done) | (simp [*]; done), HB2.out⟩
  | false =>
    have hd2 : decide (0 < (x.length : Int)) = false := by simpa using hd
    have hd3 : decide (0 < x.length) = false := by simpa using hd
    clear hd
    go_enter Try.func103, Try.ntmps103
    go_wp2_with (go_at_call 52; refine (impl_WalkTable.calls k w h A c l A1 c1 p a b x _ (Kd.C_below HR.out HB.out) hc (Kd.C_below HR1.out HB.out) hc1 HX.out).mono ?_; rintro e w' ⟨v, rfl, ho, hb⟩; obtain ⟨A2, c2, rfl, hl2, _⟩ := Kd.R_reads ho; clear ho; have HB2 := Aside0.mk hb; clear hb)
    go_ret
    exact ⟨by first | rfl | (simp; done) | (simp [*]; done), HB2.out⟩
set_option maxHeartbeats 4000000 in
set_option maxRecDepth 100000 in
theorem impl_TableOk.calls (k : Nat) (a0_0 : Int) (a0_1 : Int) (A0_2 : Option Addr) (c0_2 : Nat) (l0_2 : List Int) (A1_0 : Option Addr) (c1_0 : Nat) (l1_0 : List Int) (r : Bool) (w : World) (hr0_2 : Kd.C (Kd.int .i64) w A0_2 l0_2.length l0_2) (hc0_2 : l0_2.length ≤ c0_2) (hr1_0 : Kd.C (Kd.int .i64) w A1_0 l1_0.length l1_0) (hc1_0 : l1_0.length ≤ c1_0) (h : impl_TableOk.f k a0_0 a0_1 l0_2 l1_0 = some r) :
    Calls Try.prog 44 #[.agg #[.int .i64 a0_0, .int .i64 a0_1, .slice A0_2 l0_2.length c0_2], .agg #[.slice A1_0 l1_0.length c1_0]] w fun e w' => e = .returned (.bool r) ∧ Below w.heap.size w w' := by
  have hu1 := Try.underlying34
  have hu2 := Try.underlying36
  have hu3 := Try.underlying32
  have HR := Aside0.mk hr0_2
  have HR1 := Aside0.mk hr1_0
  have HB := Aside0.mk (Below.refl w.heap.size w)
  unfold impl_TableOk.f at h
  obtain ⟨n, hn, h⟩ := Option.bind_eq_some_iff.1 h
  obtain ⟨m, hm, h⟩ := Option.bind_eq_some_iff.1 h
  obtain ⟨N, rfl, hN⟩ := nodes_nat hn
  simp only [Int.toNat_natCast] at h
  have HN := Aside0.mk hn
  have HM := Aside0.mk hm
  have H := Aside0.mk h
  have hpl : l1_0.length ≤ 9223372036854775807 := hr1_0.2.1
  clear hr0_2 hr1_0 hn hm h
  obtain ⟨M, hM⟩ : ∃ M : Nat, M = N * N := ⟨_, rfl⟩
  have hM2 : M ≤ 256 := by rw [hM]; exact Nat.mul_le_mul hN hN
  have hw0 : wrap64 ((N : Int) * (N : Int)) = (M : Int) := by
    rw [show (N : Int) * (N : Int) = (M : Int) by rw [hM]; simp]
    unfold wrap64; omega
  have hw1 : IntKind.i64.wrap ((N : Int) * (N : Int)) = (M : Int) := (i64_w _).trans hw0
  have HMM := Aside0.mk hM
  have H' : Aside0 ((if m = true then (if (l1_0.length : Int) = (M : Int) then ((impl_TableOk.l0 k (N : Int) 0 l1_0).bind fun d => (if d = true then (impl_TableOk.wk k a0_0 a0_1 l0_2 l1_0 (pall N 0)) else (some false))) else (some false)) else (some false)) = some r) := ⟨by rw [← hw0]; exact H.out⟩
  clear H hM
  have HW0 := Aside0.mk hw0
  clear hw0
  go_enter Try.func44, Try.ntmps44
  go_wp2_with (first | ((with_reducible refine gate_dst (N := 2) rfl ?_); refine box_event ?hg (N := 2) ?hd (cs := #[.int .i64 a0_0, .int .i64 a0_1, .slice A0_2 l0_2.length c0_2]) (t := 34) ?hr ?_; (case hd => rfl); (case hg => rfl); (case hr => first | (go_simp; done) | (go_simp; rfl)); intro gm hg w1 hbox hb; have n1 := Aside0.mk (below_step (by repeat (first | (with_reducible first | exact HB.out | apply below_alloc | apply pw_below_drewN | apply below_drew1) | exact HB.out)) hb); have n2 := Aside0.mk hbox; clear HB hb hbox hg; have HB := n1; have BKm := n2; clear n1 n2) | ((with_reducible refine gate_dst (N := 3) rfl ?_); refine box_event ?hg (N := 3) ?hd (cs := #[.slice A1_0 l1_0.length c1_0]) (t := 36) ?hr ?_; (case hd => rfl); (case hg => rfl); (case hr => first | (go_simp; done) | (go_simp; rfl)); intro gt hg w2 hbox hb; have n1 := Aside0.mk (below_step (by repeat (first | (with_reducible first | exact HB.out | apply below_alloc | apply pw_below_drewN | apply below_drew1) | exact HB.out)) hb); have n2 := Aside0.mk hbox; have n3 := Aside0.mk (blk_below (by (with_reducible repeat (first | refine blk_drewN ?_ _ | refine blk_drew ?_ | refine blk_alloc ?_ _)); exact BKm.out) hb); clear HB BKm hb hbox hg; have HB := n1; have BKt := n2; have BKm := n3; clear n1 n2 n3; have e0 : w2.cell? ⟨gm, 0, none⟩ = some (.int .i64 a0_0) := (blk_cell BKm.out 0).trans rfl; have e1 : w2.cell? ⟨gm, 1, none⟩ = some (.int .i64 a0_1) := (blk_cell BKm.out 1).trans rfl; have e2 : w2.cell? ⟨gm, 2, none⟩ = some (.slice A0_2 l0_2.length c0_2) := (blk_cell BKm.out 2).trans rfl; have e3 : w2.cell? ⟨gt, 0, none⟩ = some (.slice A1_0 l1_0.length c1_0) := (blk_cell BKt.out 0).trans rfl))
  refine (impl_NodeCount.calls a0_0 a0_1 (N : Int) _ HN.out).mono ?_
  rintro e w3 ⟨rfl, hb⟩
  clear e0 e1 e2 e3
  have n1 := Aside0.mk (below_step (by repeat (first | (with_reducible first | exact HB.out | apply below_alloc | apply pw_below_drewN | apply below_drew1) | exact HB.out)) hb)
  have n2 := Aside0.mk (blk_below (by (with_reducible repeat (first | refine blk_drewN ?_ _ | refine blk_drew ?_ | refine blk_alloc ?_ _)); exact BKm.out) hb)
  have n3 := Aside0.mk (blk_below (by (with_reducible repeat (first | refine blk_drewN ?_ _ | refine blk_drew ?_ | refine blk_alloc ?_ _)); exact BKt.out) hb)
  clear HB BKm BKt hb
  have HB := n1
  have BKm := n2
  have BKt := n3
  clear n1 n2 n3
  have e0 : w3.cell? ⟨gm, 0, none⟩ = some (.int .i64 a0_0) := (blk_cell BKm.out 0).trans rfl
  have e1 : w3.cell? ⟨gm, 1, none⟩ = some (.int .i64 a0_1) := (blk_cell BKm.out 1).trans rfl
  have e2 : w3.cell? ⟨gm, 2, none⟩ = some (.slice A0_2 l0_2.length c0_2) := (blk_cell BKm.out 2).trans rfl
  have e3 : w3.cell? ⟨gt, 0, none⟩ = some (.slice A1_0 l1_0.length c1_0) := (blk_cell BKt.out 0).trans rfl
  go_wp2_with (fail)
  refine (impl_MeshOk.calls k a0_0 a0_1 A0_2 c0_2 l0_2 m _ (Kd.C_below HR.out (by repeat (first | (with_reducible first | exact HB.out | apply below_alloc | apply pw_below_drewN | apply below_drew1) | exact HB.out))) hc0_2 HM.out).mono ?_
  rintro e w4 ⟨rfl, hb⟩
  clear e0 e1 e2 e3
  have n1 := Aside0.mk (below_step (by repeat (first | (with_reducible first | exact HB.out | apply below_alloc | apply pw_below_drewN | apply below_drew1) | exact HB.out)) hb)
  have n2 := Aside0.mk (blk_below (by (with_reducible repeat (first | refine blk_drewN ?_ _ | refine blk_drew ?_ | refine blk_alloc ?_ _)); exact BKm.out) hb)
  have n3 := Aside0.mk (blk_below (by (with_reducible repeat (first | refine blk_drewN ?_ _ | refine blk_drew ?_ | refine blk_alloc ?_ _)); exact BKt.out) hb)
  clear HB BKm BKt hb
  have HB := n1
  have BKm := n2
  have BKt := n3
  clear n1 n2 n3
  have e0 : w4.cell? ⟨gm, 0, none⟩ = some (.int .i64 a0_0) := (blk_cell BKm.out 0).trans rfl
  have e1 : w4.cell? ⟨gm, 1, none⟩ = some (.int .i64 a0_1) := (blk_cell BKm.out 1).trans rfl
  have e2 : w4.cell? ⟨gm, 2, none⟩ = some (.slice A0_2 l0_2.length c0_2) := (blk_cell BKm.out 2).trans rfl
  have e3 : w4.cell? ⟨gt, 0, none⟩ = some (.slice A1_0 l1_0.length c1_0) := (blk_cell BKt.out 0).trans rfl
  cases m with
  | false =>
    have h := H'.out
    clear H'
    rw [if_neg (by decide)] at h
    obtain rfl := Option.some.inj h
    go_wp2
    go_ret
    exact ⟨rfl, HB.out⟩
  | true =>
    have H2 := Aside0.mk ((if_pos rfl).symm.trans H'.out)
    clear H'
    by_cases q : l1_0.length = M
    · have H3 := Aside0.mk ((if_pos (show (l1_0.length : Int) = (M : Int) by omega)).symm.trans H2.out)
      clear H2
      obtain ⟨d, hd, h⟩ := Option.bind_eq_some_iff.1 H3.out
      clear H3
      have HD := Aside0.mk hd
      have H4 := Aside0.mk h
      clear hd h
      have q1 : ((l1_0.length : Int) != (M : Int)) = false := bne_eq_false_iff_eq.2 (by omega)
      have q2 : ((l1_0.length : Int) == (M : Int)) = true := beq_iff_eq.2 (by omega)
      have q3 : (l1_0.length != M) = false := bne_eq_false_iff_eq.2 q
      have q4 : (l1_0.length == M) = true := beq_iff_eq.2 q
      have HQ := Aside0.mk q
      clear q
      go_wp2
      go_loopg [23] (N + 1) (fun kq v23 wr => ∃ (i kk : Nat), i ≤ N ∧ N - i < kq ∧ v23 = .int .i64 (i : Int) ∧ Aside0 (impl_TableOk.l0 kk (N : Int) (i : Int) l1_0 = some d) ∧ Aside0 (wr.heap[gm]? = some (.cells #[.int .i64 a0_0, .int .i64 a0_1, .slice A0_2 l0_2.length c0_2] 34 (0, 0))) ∧ Aside0 (wr.heap[gt]? = some (.cells #[.slice A1_0 l1_0.length c1_0] 36 (0, 0))) ∧ Aside0 (Below w.heap.size w wr))
      case atStart => exact ⟨0, k, Nat.zero_le _, by omega, rfl, HD, BKm, BKt, HB⟩
      case round =>
        clear HD BKm BKt HB e0 e1 e2 e3
        obtain ⟨i, kk, hi, hgk, rfl, HD, BKm, BKt, HB⟩ := hrel
        cases kk with
        | zero => exact absurd HD.out (by simp [impl_TableOk.l0])
        | succ kk =>
          have h := HD.out
          clear HD
          simp only [impl_TableOk.l0] at h
          by_cases hlt : i < N
          · have hltz : (i : Int) < (N : Int) := by omega
            rw [if_pos hltz] at h
            obtain ⟨X, hX⟩ : ∃ X : Nat, X = i * N := ⟨_, rfl⟩
            have hX2 : X ≤ 256 := by rw [hX]; exact (Nat.mul_le_mul (show i ≤ 16 by omega) hN : i * N ≤ 16 * 16)
            have hX3 : X + i < M := by
              rw [HMM.out, hX]
              calc i * N + i < i * N + N := by omega
                _ = (i + 1) * N := by rw [Nat.succ_mul]
                _ ≤ N * N := Nat.mul_le_mul_right _ hlt
            obtain ⟨Y, hY⟩ : ∃ Y : Nat, Y = X + i := ⟨_, rfl⟩
            have hY2 : Y ≤ 512 := by omega
            have hY3 : Y < l1_0.length := by rw [HQ.out]; omega
            have p1 : (0 : Int) ≤ (Y : Int) := by omega
            have p2 : (Y : Int) < (l1_0.length : Int) := by omega
            have hy2 : (X : Int) + (i : Int) = (Y : Int) := by omega
            have HY0 : Aside0 (wrap64 ((X : Int) + (i : Int)) = (Y : Int)) := ⟨by unfold wrap64; omega⟩
            have HX0 : Aside0 (wrap64 ((i : Int) * (N : Int)) = (X : Int)) := ⟨by
              rw [show (i : Int) * (N : Int) = (X : Int) by rw [hX]; simp]
              unfold wrap64; omega⟩
            rw [HX0.out, HY0.out, if_pos p1, if_pos p2] at h
            have H5 := Aside0.mk h
            have HX1 := Aside0.mk ((i64_w _).trans HX0.out)
            have HY1 := Aside0.mk ((i64_w _).trans HY0.out)
            clear h hX hY HX0 HY0
            obtain ⟨ad, ead, hx⟩ := Kd.at_int (Kd.C_below HR1.out HB.out) (Y : Int) p1 p2
            subst ead
            have ht : ((Y : Int)).toNat = Y := by simp
            rw [ht] at hx
            clear ht
            generalize hz : rd l1_0 (Y : Int) = z at hx
            have HZ := Aside0.mk hz
            clear hz
            have e3 : wr.cell? ⟨gt, 0, none⟩ = some (.slice (some ad) l1_0.length c1_0) := (blk_cell BKt.out 0).trans rfl
            by_cases q5 : z = 4
            · have q6 : (z != 4) = false := bne_eq_false_iff_eq.2 q5
              have q7 : (z == 4) = true := beq_iff_eq.2 q5
              have H6 : Aside0 (impl_TableOk.l0 kk (N : Int) ((i + 1 : Nat) : Int) l1_0 = some d) := ⟨by
                have h := H5.out
                rw [HZ.out, if_pos q5] at h
                rw [show ((i + 1 : Nat) : Int) = wrap64 ((i : Int) + 1) by unfold wrap64; omega]
                exact h⟩
              clear H5 HZ q5
              have hx1 := HX1.out
              have hy1 := HY1.out
              go_wp2
              clear hx1 hy1
              go_roundg (N - i)
              case measure => omega
              case rel => exact ⟨i + 1, kk, by omega, by omega, by go_num, H6, BKm, BKt, HB⟩
            · have q6 : (z != 4) = true := bne_iff_ne.2 q5
              have q7 : (z == 4) = false := beq_eq_false_iff_ne.2 q5
              have h := H5.out
              rw [HZ.out, if_neg q5] at h
              obtain rfl := Option.some.inj h
              have h2 := H4.out
              rw [if_neg (by decide)] at h2
              obtain rfl := Option.some.inj h2
              clear H5 H4 HZ q5
              have hx1 := HX1.out
              have hy1 := HY1.out
              go_wp2
              go_ret
              exact ⟨rfl, HB.out⟩
          · have hltz : ¬ (i : Int) < (N : Int) := by omega
            rw [if_neg hltz] at h
            obtain rfl := Option.some.inj h
            have H6 := Aside0.mk ((if_pos rfl).symm.trans H4.out)
            clear H4
            have e0 : wr.cell? ⟨gm, 0, none⟩ = some (.int .i64 a0_0) := (blk_cell BKm.out 0).trans rfl
            have e1 : wr.cell? ⟨gm, 1, none⟩ = some (.int .i64 a0_1) := (blk_cell BKm.out 1).trans rfl
            have e2 : wr.cell? ⟨gm, 2, none⟩ = some (.slice A0_2 l0_2.length c0_2) := (blk_cell BKm.out 2).trans rfl
            go_wp2_with (fail)
            refine (impl_pairs.abs a0_0 a0_1 N HN.out hN 103 #[.pointer (some ⟨gm, 0, none⟩), .pointer (some ⟨gt, 0, none⟩)] r (fun l W => impl_TableOk.wk k a0_0 a0_1 l0_2 l1_0 l = some r ∧ Below w.heap.size w W ∧ W.heap[gm]? = some (.cells #[.int .i64 a0_0, .int .i64 a0_1, .slice A0_2 l0_2.length c0_2] 34 (0, 0)) ∧ W.heap[gt]? = some (.cells #[.slice A1_0 l1_0.length c1_0] 36 (0, 0))) (fun W => Below w.heap.size w W) (fun args W => by kernel_rfl) ?hJ ?hstep ?hend _ ⟨H6.out, HB.out, BKm.out, BKt.out⟩).mono ?_
            case hJ =>
              rintro l W W' ⟨h1, h2, h3, h4⟩ hb
              exact ⟨h1, below_step h2 hb, blk_below h3 hb, blk_below h4 hb⟩
            case hstep =>
              rintro a b l W ⟨h1, h2, h3, h4⟩
              unfold impl_TableOk.wk at h1
              obtain ⟨x, hx, h1⟩ := Option.bind_eq_some_iff.1 h1
              refine ⟨decide ((x.length : Int) > 0), (impl_TableOk.clo k a0_0 a0_1 A0_2 c0_2 l0_2 A1_0 c1_0 l1_0 a b x gm gt W h3 h4 (Kd.C_below HR.out h2) hc0_2 (Kd.C_below HR1.out h2) hc1_0 hx).mono ?_⟩
              rintro e W' ⟨rfl, hb⟩
              refine ⟨rfl, fun hd => ⟨?_, below_step h2 hb, blk_below h3 hb, blk_below h4 hb⟩, fun hd => ⟨?_, below_step h2 hb⟩⟩
              · rw [if_pos (of_decide_eq_true hd)] at h1; exact h1
              · rw [if_neg (of_decide_eq_false hd)] at h1; exact (Option.some.inj h1).symm
            case hend =>
              rintro W ⟨h1, h2, _, _⟩
              exact ⟨(Option.some.inj h1).symm, h2⟩
            rintro e w' ⟨rfl, hb⟩
            go_wp2
            go_ret
            exact ⟨rfl, hb⟩
    · have q1 : ((l1_0.length : Int) != (M : Int)) = true := bne_iff_ne.2 (by omega)
      have q2 : ((l1_0.length : Int) == (M : Int)) = false := beq_eq_false_iff_ne.2 (by omega)
      have q3 : (l1_0.length != M) = true := bne_iff_ne.2 q
      have q4 : (l1_0.length == M) = false := beq_eq_false_iff_ne.2 q
      have h := H2.out
      clear H2
      rw [if_neg (by omega)] at h
      obtain rfl := Option.some.inj h
      clear q
      go_wp2
      go_ret
      exact ⟨rfl, HB.out⟩



-- NOT PRINTED: function 131 (impl_adjacent_1)


/-! ### impl_adjacent: function 82 (by hand) -/
/-- what a visitor of adjacent may do. J: what holds while these pairs are still to be visited; O: the blocks that it may write -/
structure Vis (g : Nat) (lb : Array Value) (w00 : World) (J : List (Int × Int) → World → Prop) (O : World → Nat → Prop) : Prop where
  eg : ∀ args W, (callFunc g args).run Try.prog W = .ok (.enter g args) W
  elder : ∀ l W, J l W → Below w00.heap.size w00 W
  lt : ∀ l W k, J l W → O W k → k < W.heap.size
  move : ∀ l W W', J l W → Below W.heap.size W W' → J l W' ∧ ∀ k, O W' k → O W k
  step : ∀ a b l W, J ((a, b) :: l) W → Calls Try.prog g (#[.int .i64 a, .int .i64 b] ++ lb) W fun e W' => e = .returned (.tuple #[]) ∧ J l W' ∧ W.heap.size ≤ W'.heap.size ∧ (∀ k, k < W.heap.size → ¬ O W k → W'.heap[k]? = W.heap[k]?) ∧ (∀ k, O W' k → O W k ∨ W.heap.size ≤ k)
/-- two adjacent elements, from the place i on -/
def adf (x : List Int) (i : Nat) : List (Int × Int) := (List.range' i (x.length - i)).map fun (j : Nat) => (rd x ((j - 1 : Nat) : Int), rd x (j : Int))
theorem adf_lt {x : List Int} {i : Nat} (h : i < x.length) : adf x i = (rd x ((i - 1 : Nat) : Int), rd x (i : Int)) :: adf x (i + 1) := by
  unfold adf
  rw [show x.length - i = (x.length - (i + 1)) + 1 by omega, List.range'_succ, List.map_cons]
theorem adf_end {x : List Int} {i : Nat} (h : x.length ≤ i) : adf x i = [] := by
  unfold adf
  rw [show x.length - i = 0 by omega]
  rfl
def impl_adjacent.wk (k : Nat) (w h : Int) (l p : List Int) : List (Int × Int) → Option (List (Int × Int))
  | [] => some []
  | (a, b) :: r => (impl_WalkTable.f k w h l p a b).bind fun x => (impl_adjacent.wk k w h l p r).bind fun t => some (adf x 1 ++ t)
theorem impl_adjacent.mono_w (w h : Int) (l p : List Int) (k : Nat) : ∀ r, LeO (impl_adjacent.wk k w h l p r) (impl_adjacent.wk (k + 1) w h l p r)
  | [] => LeO.refl _
  | (a, b) :: r => by
    have ih := impl_adjacent.mono_w w h l p k r
    unfold impl_adjacent.wk
    exact LeO.bind (impl_WalkTable.mono _ _ _ _ _ _ _) (fun x => LeO.bind ih (fun _ => LeO.refl _))
/-- the boxes of adjacent, and that the visitor writes none of them -/
def AdB (w h : Int) (A : Option Addr) (n c : Nat) (A1 : Option Addr) (n1 c1 : Nat) (g : Nat) (lb : Array Value) (bm bt bv : Nat) (O : World → Nat → Prop) (W : World) : Prop :=
  W.heap[bm]? = some (.cells #[.int .i64 w, .int .i64 h, .slice A n c] 34 (0, 0)) ∧ W.heap[bt]? = some (.cells #[.slice A1 n1 c1] 36 (0, 0)) ∧ W.heap[bv]? = some (.cells #[.func (.func g) #[] lb] 98 (0, 0)) ∧ ¬ O W bm ∧ ¬ O W bt ∧ ¬ O W bv
theorem AdB.below {w h : Int} {A : Option Addr} {n c : Nat} {A1 : Option Addr} {n1 c1 g : Nat} {lb : Array Value} {bm bt bv : Nat} {O : World → Nat → Prop} {W W' : World} (t : AdB w h A n c A1 n1 c1 g lb bm bt bv O W) (hb : Below W.heap.size W W') (hO : ∀ k, O W' k → O W k) : AdB w h A n c A1 n1 c1 g lb bm bt bv O W' := by
  obtain ⟨t1, t2, t3, t4, t5, t6⟩ := t
  exact ⟨blk_below t1 hb, blk_below t2 hb, blk_below t3 hb, fun x => t4 (hO _ x), fun x => t5 (hO _ x), fun x => t6 (hO _ x)⟩
theorem AdB.step {w h : Int} {A : Option Addr} {n c : Nat} {A1 : Option Addr} {n1 c1 g : Nat} {lb : Array Value} {bm bt bv : Nat} {O : World → Nat → Prop} {W W' : World} (t : AdB w h A n c A1 n1 c1 g lb bm bt bv O W) (hf : ∀ k, k < W.heap.size → ¬ O W k → W'.heap[k]? = W.heap[k]?) (hO : ∀ k, O W' k → O W k ∨ W.heap.size ≤ k) : AdB w h A n c A1 n1 c1 g lb bm bt bv O W' := by
  obtain ⟨t1, t2, t3, t4, t5, t6⟩ := t
  have m : ∀ k o, W.heap[k]? = some o → ¬ O W k → W'.heap[k]? = some o ∧ ¬ O W' k := fun k o hk no => by
    have hlt := (Array.getElem?_eq_some_iff.1 hk).1
    refine ⟨(hf k hlt no).trans hk, fun x => ?_⟩
    rcases hO k x with y | y
    · exact no y
    · omega
  exact ⟨(m _ _ t1 t4).1, (m _ _ t2 t5).1, (m _ _ t3 t6).1, (m _ _ t1 t4).2, (m _ _ t2 t5).2, (m _ _ t3 t6).2⟩
set_option maxHeartbeats 8000000 in
set_option maxRecDepth 100000 in
/-- the visitor that adjacent hands to pairs: it visits the adjacent channels of one walk -/
theorem impl_adjacent.clo (k : Nat) (w h : Int) (A : Option Addr) (c : Nat) (l : List Int) (A1 : Option Addr) (c1 : Nat) (p : List Int) (a b : Int) (x : List Int) (bm bt bv g : Nat) (lb : Array Value) (w00 W : World) (J : List (Int × Int) → World → Prop) (O : World → Nat → Prop) (V : Vis g lb w00 J O) (rest : List (Int × Int))
    (hJ : J (adf x 1 ++ rest) W) (hB : AdB w h A l.length c A1 p.length c1 g lb bm bt bv O W)
    (hr : Kd.C (Kd.int .i64) w00 A l.length l) (hc : l.length ≤ c) (hr1 : Kd.C (Kd.int .i64) w00 A1 p.length p) (hc1 : p.length ≤ c1) (hx : impl_WalkTable.f k w h l p a b = some x) :
    Calls Try.prog 131 #[.int .i64 a, .int .i64 b, .pointer (some ⟨bm, 0, none⟩), .pointer (some ⟨bt, 0, none⟩), .pointer (some ⟨bv, 0, none⟩)] W fun e W' => e = .returned (.bool true) ∧ J rest W' ∧ AdB w h A l.length c A1 p.length c1 g lb bm bt bv O W' := by
  have hu1 := Try.underlying34
  have hu2 := Try.underlying36
  have HV := Aside0.mk V
  have HX := Aside0.mk hx
  have HR := Aside0.mk hr
  have HR1 := Aside0.mk hr1
  have HJ := Aside0.mk hJ
  have HB := Aside0.mk hB
  clear V hx hr hr1 hJ
  have e0 : W.cell? ⟨bm, 0, none⟩ = some (.int .i64 w) := (blk_cell hB.1 0).trans rfl
  have e1 : W.cell? ⟨bm, 1, none⟩ = some (.int .i64 h) := (blk_cell hB.1 1).trans rfl
  have e2 : W.cell? ⟨bm, 2, none⟩ = some (.slice A l.length c) := (blk_cell hB.1 2).trans rfl
  have e3 : W.cell? ⟨bt, 0, none⟩ = some (.slice A1 p.length c1) := (blk_cell hB.2.1 0).trans rfl
  clear hB
  go_enter Try.func131, Try.ntmps131
  go_wp2_with (go_at_call 52; refine (impl_WalkTable.calls k w h A c l A1 c1 p a b x _ (Kd.C_below HR.out (HV.out.elder _ _ HJ.out)) hc (Kd.C_below HR1.out (HV.out.elder _ _ HJ.out)) hc1 HX.out).mono ?_; rintro e w1 ⟨v, rfl, ho, hb⟩; obtain ⟨A2, c2, rfl, hl2, _⟩ := Kd.R_reads ho; have n1 := Aside0.mk (HV.out.move _ _ _ HJ.out hb); have n2 := Aside0.mk (AdB.below HB.out hb n1.out.2); have HO : Aside0 (Kd.R (Kd.int .i64) 3 w1 W.heap.size (fun k => ¬ O w1 k) (.slice A2 x.length c2) x) := ⟨Kd.R_mono (Kd.R_bound ho) (fun k hk ho' => by have z := HV.out.lt _ _ k HJ.out (n1.out.2 k ho'); have := hk.2.1; omega)⟩; clear HJ HB ho hb e0 e1 e2 e3; have HJ := Aside0.mk n1.out.1; have HB := n2; clear n1 n2)
  have hxl : x.length ≤ 9223372036854775807 := (Kd.R_reads' HO.out).2.2.2.1
  go_loopg [9] (x.length + 1) (fun kq v9 wr => ∃ i : Nat, 1 ≤ i ∧ (i ≤ x.length ∨ i = 1) ∧ x.length - i < kq ∧ v9 = .int .i64 (i : Int) ∧ Aside0 (J (adf x i ++ rest) wr) ∧ Aside0 (AdB w h A l.length c A1 p.length c1 g lb bm bt bv O wr) ∧ Aside0 (Kd.R (Kd.int .i64) 3 wr W.heap.size (fun k => ¬ O wr k) (.slice A2 x.length c2) x))
  case atStart => exact ⟨1, by omega, by omega, by omega, rfl, HJ, HB, HO⟩
  case round =>
    clear HJ HB HO
    obtain ⟨i, hi1, hi, hgk, rfl, HJ, HB, HO⟩ := hrel
    by_cases hlt : i < x.length
    · have hltz : (i : Int) < (x.length : Int) := by omega
      have p1 : (0 : Int) ≤ (i : Int) := by omega
      have p2 : (0 : Int) ≤ ((i - 1 : Nat) : Int) := by omega
      have p3 : ((i - 1 : Nat) : Int) < (x.length : Int) := by omega
      have HW : Aside0 (IntKind.i64.wrap ((i : Int) - 1) = ((i - 1 : Nat) : Int)) := ⟨(i64_w _).trans (by unfold wrap64; omega)⟩
      obtain ⟨ad, ead, hx0⟩ := Kd.at_int (Kd.R_reads' HO.out).2.2 ((i - 1 : Nat) : Int) p2 p3
      obtain ⟨ad', ead', hx1⟩ := Kd.at_int (Kd.R_reads' HO.out).2.2 (i : Int) p1 hltz
      subst ead
      obtain rfl : ad = ad' := by injection ead'
      clear ead'
      have HJ2 : Aside0 (J ((rd x ((i - 1 : Nat) : Int), rd x (i : Int)) :: (adf x (i + 1) ++ rest)) wr) := ⟨by have := HJ.out; rw [adf_lt hlt] at this; exact this⟩
      clear HJ
      rw [show ((i - 1 : Nat) : Int).toNat = i - 1 by simp] at hx0
      rw [show (i : Int).toNat = i by simp] at hx1
      generalize hz0 : rd x ((i - 1 : Nat) : Int) = z0 at hx0 HJ2
      generalize hz1 : rd x (i : Int) = z1 at hx1 HJ2
      clear hz0 hz1
      have ev : wr.cell? ⟨bv, 0, none⟩ = some (.func (.func g) #[] lb) := (blk_cell HB.out.2.2.1 0).trans rfl
      have hw1 := HW.out
      go_wp2_with (fail)
      go_still_tail 10, (by kernel_rfl)
      clear hw1 HW
      change wpList _ _ _ _ _ wr.drew
      have hbd : Below wr.heap.size wr wr.drew := (Below.refl _ _).drew
      have n1 := Aside0.mk (HV.out.move _ _ _ HJ2.out hbd)
      have n2 := Aside0.mk (AdB.below HB.out hbd n1.out.2)
      have n3 : Aside0 (Kd.R (Kd.int .i64) 3 wr.drew W.heap.size (fun k => ¬ O wr.drew k) (.slice (some ad) x.length c2) x) := ⟨Kd.R_mono (Kd.R_below HO.out hbd) (fun k hk ho' => hk (n1.out.2 k ho'))⟩
      clear HJ2 HB HO hbd hx0 hx1 ev
      have HS := Aside0.mk (HV.out.step z0 z1 _ _ n1.out.1)
      clear n1
      generalize wr.drew = w2 at n2 n3 HS
      have heg := HV.out.eg
      go_wp2_with (fail)
      clear heg
      refine (HS.out).mono ?_
      rintro e w3 ⟨rfl, hj, hsz, hf, ho⟩
      have HJ := Aside0.mk hj
      have HB := Aside0.mk (AdB.step n2.out hf ho)
      have HO : Aside0 (Kd.R (Kd.int .i64) 3 w3 W.heap.size (fun k => ¬ O w3 k) (.slice (some ad) x.length c2) x) := ⟨Kd.R_mono (Kd.R_move (Kd.R_bound n3.out) (fun k hk => hf k hk.2.2.1 hk.1)) (fun k hk ho' => by rcases ho k ho' with y | y; exact hk.1 y; have := hk.2.2.1; omega)⟩
      clear hj hsz hf ho n2 n3 HS
      go_wp2_with (fail)
      go_roundg (x.length - i)
      case measure => omega
      case rel => exact ⟨i + 1, by omega, by omega, by omega, by go_num, HJ, HB, HO⟩
    · have hltz : ¬ (i : Int) < (x.length : Int) := by omega
      have HJ3 : Aside0 (J rest wr) := ⟨by have := HJ.out; rw [adf_end (by omega), List.nil_append] at this; exact this⟩
      clear HJ
      go_wp2
      go_ret
      exact ⟨rfl, HJ3.out, HB.out⟩
set_option maxHeartbeats 4000000 in
set_option maxRecDepth 100000 in
theorem impl_adjacent.abs (k : Nat) (w h : Int) (A : Option Addr) (c : Nat) (l : List Int) (A1 : Option Addr) (c1 : Nat) (p : List Int) (N : Nat) (hn : impl_NodeCount.f w h = some (N : Int)) (hN : N ≤ 16) (vs : List (Int × Int)) (hvs : impl_adjacent.wk k w h l p (pall N 0) = some vs) (g : Nat) (lb : Array Value) (w00 W : World) (J : List (Int × Int) → World → Prop) (O : World → Nat → Prop) (V : Vis g lb w00 J O) (hJ : J vs W)
    (hr : Kd.C (Kd.int .i64) w00 A l.length l) (hc : l.length ≤ c) (hr1 : Kd.C (Kd.int .i64) w00 A1 p.length p) (hc1 : p.length ≤ c1) :
    Calls Try.prog 82 #[.agg #[.int .i64 w, .int .i64 h, .slice A l.length c], .agg #[.slice A1 p.length c1], .func (.func g) #[] lb] W fun e W' => e = .returned (.tuple #[]) ∧ J [] W' := by
  have hu1 := Try.underlying34
  have hu2 := Try.underlying36
  have hu3 := Try.underlying32
  have HV := Aside0.mk V
  have HN := Aside0.mk hn
  have HVS := Aside0.mk hvs
  have HR := Aside0.mk hr
  have HR1 := Aside0.mk hr1
  have HJ := Aside0.mk hJ
  have HB := Aside0.mk (Below.refl W.heap.size W)
  clear V hn hvs hr hr1 hJ
  go_enter Try.func82, Try.ntmps82
  go_wp2_with (first
    | ((with_reducible refine gate_dst (N := 3) rfl ?_); refine box_event ?hg (N := 3) ?hd (cs := #[.int .i64 w, .int .i64 h, .slice A l.length c]) (t := 34) ?hr ?_; (case hd => rfl); (case hg => rfl); (case hr => first | (go_simp; done) | (go_simp; rfl)); intro gm hgm w1 hbox hb; have n1 := Aside0.mk (below_step HB.out hb); have BKm := Aside0.mk hbox; have GM := Aside0.mk hgm; clear HB hb hbox hgm; have HB := n1; clear n1)
    | ((with_reducible refine gate_dst (N := 4) rfl ?_); refine box_event ?hg (N := 4) ?hd (cs := #[.slice A1 p.length c1]) (t := 36) ?hr ?_; (case hd => rfl); (case hg => rfl); (case hr => first | (go_simp; done) | (go_simp; rfl)); intro gt hgt w2 hbox hb; have n1 := Aside0.mk (below_step HB.out hb); have n2 := Aside0.mk (blk_below BKm.out hb); have BKt := Aside0.mk hbox; have GT : Aside0 (W.heap.size ≤ gt) := ⟨by rw [hgt]; exact HB.out.size⟩; clear HB BKm hb hbox hgt; have HB := n1; have BKm := n2; clear n1 n2)
    | ((with_reducible refine gate_dst (N := 5) rfl ?_); refine box_event ?hg (N := 5) ?hd (cs := #[.func (.func g) #[] lb]) (t := 98) ?hr ?_; (case hd => rfl); (case hg => rfl); (case hr => first | (go_simp; done) | (go_simp; rfl)); intro gv hgv w3 hbox hb; have n1 := Aside0.mk (below_step HB.out hb); have n2 := Aside0.mk (blk_below BKm.out hb); have n3 := Aside0.mk (blk_below BKt.out hb); have BKv := Aside0.mk hbox; have GV : Aside0 (W.heap.size ≤ gv) := ⟨by rw [hgv]; exact HB.out.size⟩; clear HB BKm BKt hb hbox hgv; have HB := n1; have BKm := n2; have BKt := n3; clear n1 n2 n3; have e0 : w3.cell? ⟨gm, 0, none⟩ = some (.int .i64 w) := (blk_cell BKm.out 0).trans rfl; have e1 : w3.cell? ⟨gm, 1, none⟩ = some (.int .i64 h) := (blk_cell BKm.out 1).trans rfl))
  have M1 := HV.out.move _ _ _ HJ.out HB.out
  have nO : ∀ b, W.heap.size ≤ b → ¬ O w3 b := fun b hb ho => by
    have z := HV.out.lt _ _ b HJ.out (M1.2 b ho)
    omega
  have HA : Aside0 (AdB w h A l.length c A1 p.length c1 g lb gm gt gv O w3) := ⟨BKm.out, BKt.out, BKv.out, nO _ (by rw [GM.out]; exact Nat.le_refl _), nO _ GT.out, nO _ GV.out⟩
  have HJ3 := Aside0.mk M1.1
  clear M1 nO e0 e1
  refine (impl_pairs.abs w h N HN.out hN 131 #[.pointer (some ⟨gm, 0, none⟩), .pointer (some ⟨gt, 0, none⟩), .pointer (some ⟨gv, 0, none⟩)] true (fun r W' => ∃ t, impl_adjacent.wk k w h l p r = some t ∧ J t W' ∧ AdB w h A l.length c A1 p.length c1 g lb gm gt gv O W') (fun W' => J [] W') (fun args W => by kernel_rfl) ?hJ ?hstep ?hend _ ⟨vs, HVS.out, HJ3.out, HA.out⟩).mono ?_
  case hJ =>
    rintro r W1 W2 ⟨t, h1, h2, h3⟩ hb
    have z := HV.out.move _ _ _ h2 hb
    exact ⟨t, h1, z.1, AdB.below h3 hb z.2⟩
  case hstep =>
    rintro a b r W1 ⟨t, h1, h2, h3⟩
    unfold impl_adjacent.wk at h1
    obtain ⟨x, hx, h1⟩ := Option.bind_eq_some_iff.1 h1
    obtain ⟨t2, ht2, h1⟩ := Option.bind_eq_some_iff.1 h1
    obtain rfl := Option.some.inj h1
    refine ⟨true, (impl_adjacent.clo k w h A c l A1 c1 p a b x gm gt gv g lb w00 W1 J O HV.out t2 h2 h3 HR.out hc HR1.out hc1 hx).mono ?_⟩
    rintro e W' ⟨rfl, hj, hb⟩
    exact ⟨rfl, fun _ => ⟨t2, ht2, hj, hb⟩, fun hd => absurd hd (by decide)⟩
  case hend =>
    rintro W1 ⟨t, h1, h2, _⟩
    obtain rfl := Option.some.inj h1
    exact ⟨rfl, h2⟩
  rintro e w' ⟨rfl, hj⟩
  go_wp2
  go_end0
  exact ⟨rfl, hj⟩
/-- a captured slice to which a visitor appends: its box bo (cells of type t), its row (elements of type e) -/
def Acc {α : Type} (d : Kd α) (e t : TypeId) (w00 : World) (bo : Nat) (l : List α) (W : World) : Prop :=
  Below w00.heap.size w00 W ∧ w00.heap.size ≤ bo ∧ ∃ v, W.heap[bo]? = some (.cells #[v] t (0, 0)) ∧ d.R e W w00.heap.size (fun _ => True) v l
/-- the blocks that such a visitor may write -/
def AccO (t : TypeId) (bo : Nat) (W : World) (k : Nat) : Prop := k = bo ∨ ∃ v, W.heap[bo]? = some (.cells #[v] t (0, 0)) ∧ v.ownBlock = some k
section
variable {α : Type} {d : Kd α} {e t : TypeId} {w00 W W' : World} {bo : Nat} {l l' : List α}
theorem Acc.move (h : Acc d e t w00 bo l W) (hb : Below W.heap.size W W') : Acc d e t w00 bo l W' ∧ ∀ k, AccO t bo W' k → AccO t bo W k := by
  obtain ⟨h1, h2, v, h3, h4⟩ := h
  refine ⟨⟨below_step h1 hb, h2, v, blk_below h3 hb, Kd.R_below h4 hb⟩, fun k hk => ?_⟩
  rcases hk with hk | ⟨u, hu, hk⟩
  · exact .inl hk
  · refine .inr ⟨u, ?_, hk⟩
    rw [← hu]
    exact (hb.block bo (blk_lt h3)).symm
theorem Acc.lt (h : Acc d e t w00 bo l W) (k : Nat) (hk : AccO t bo W k) : k < W.heap.size := by
  obtain ⟨h1, h2, v, h3, h4⟩ := h
  rcases hk with rfl | ⟨u, hu, hk⟩
  · exact blk_lt h3
  · rw [h3] at hu
    injection hu with hu
    injection hu with hu
    injection hu with hu
    injection hu with hu
    subst hu
    obtain ⟨_, inner, ho, _⟩ := h4
    exact own_lt ho k hk
theorem Acc.put {v v1 : Value} {w1 : World} (hB : Below w00.heap.size w00 w1) (h2 : w00.heap.size ≤ bo) (h3 : W.heap[bo]? = some (.cells #[v] t (0, 0))) (h4 : d.R e W w00.heap.size (fun _ => True) v l) (ht : ∀ q, q ∈ e :: d.E → q ≠ t)
    (hr : d.R e w1 w00.heap.size (fun _ => True) v1 l') (hg : W.grownBy w1 v.ownBlock) (hat : v1.ownBlock = v.ownBlock ∨ ∃ b, v1.ownBlock = some b ∧ W.heap.size ≤ b) :
    Acc d e t w00 bo l' (w1.setCell ⟨bo, 0, none⟩ v1) ∧ W.heap.size ≤ (w1.setCell ⟨bo, 0, none⟩ v1).heap.size ∧ (∀ k, k < W.heap.size → ¬ AccO t bo W k → (w1.setCell ⟨bo, 0, none⟩ v1).heap[k]? = W.heap[k]?) ∧ (∀ k, AccO t bo (w1.setCell ⟨bo, 0, none⟩ v1) k → AccO t bo W k ∨ W.heap.size ≤ k) := by
  have h5 : w1.heap[bo]? = some (.cells #[v] t (0, 0)) := blk_grown h3 hg (Kd.R_ne h4 h3 (ht e (by simp)))
  have h6 : (w1.setCell ⟨bo, 0, none⟩ v1).heap[bo]? = some (.cells #[v1] t (0, 0)) := blk_put h5 0 _ rfl
  refine ⟨⟨below_set hB h2, h2, v1, h6, Kd.R_set hr h5 ht 0 v1⟩, ?_, fun k hk no => ?_, fun k hk => ?_⟩
  · have e1 := hg.size
    simpa [World.setCell] using e1
  · have n1 : k ≠ bo := fun x => no (.inl x)
    have n2 : some k ≠ v.ownBlock := fun x => no (.inr ⟨v, h3, x.symm⟩)
    exact (Below.heap_setCell w1 ⟨bo, 0, none⟩ v1 k n1).trans (hg.block k hk n2)
  · rcases hk with rfl | ⟨u, hu, hk⟩
    · exact .inl (.inl rfl)
    · rw [h6] at hu
      injection hu with hu
      injection hu with hu
      injection hu with hu
      injection hu with hu
      subst hu
      rcases hat with e1 | ⟨b, e1, hb⟩
      · exact .inl (.inr ⟨v, h3, by rw [← e1]; exact hk⟩)
      · rw [e1] at hk
        injection hk with hk
        exact .inr (by omega)
theorem Acc.same (h : Acc d e t w00 bo l W) : Acc d e t w00 bo l W ∧ W.heap.size ≤ W.heap.size ∧ (∀ k, k < W.heap.size → ¬ AccO t bo W k → W.heap[k]? = W.heap[k]?) ∧ (∀ k, AccO t bo W k → AccO t bo W k ∨ W.heap.size ≤ k) := ⟨h, Nat.le_refl _, fun _ _ _ => rfl, fun _ hk => .inl hk⟩
theorem Acc.start (d : Kd α) (e t : TypeId) (h : Below w00.heap.size w00 W) : Acc d e t w00 (W.heap.size + 1) [] ((W.alloc (.cells #[] e (0, 0))).alloc (.cells #[.slice (some ⟨W.heap.size, 0, none⟩) 0 0] t (0, 0))) := by
  have z := h.size
  refine ⟨below_alloc (below_alloc h _) _, by omega, .slice (some ⟨W.heap.size, 0, none⟩) 0 0, ?_, ?_⟩
  · have q := blk_new (W.alloc (.cells #[] e (0, 0))) (.cells #[.slice (some ⟨W.heap.size, 0, none⟩) 0 0] t (0, 0))
    simpa using q
  · exact ⟨fun _ _ => trivial, [], (World.ownsRow_made W #[] 0 z (by simp) (by simp)).alloc _, Reps.none _ _⟩
end



-- NOT PRINTED: function 83 (impl_TurnsOf_1)


-- NOT PRINTED: function 84 (slices_Sort_int_int)


-- NOT PRINTED: function 85 (slices_Compact_int_int)


end Go.Proofs.Ytmfkgnfjjfnfmaa.XA
