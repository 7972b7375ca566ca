/- What is proved: contracts of functions of the program (each: where its Lean function answers, the call returns that answer); written by a program of this session. -/
import Derived.Test.YtmfkgnfjjfnfmaaXG0
import Derived.Test.YtmfkgnfjjfnfmaaXG1
import Derived.Test.YtmfkgnfjjfnfmaaXG2
import Derived.Test.YtmfkgnfjjfnfmaaXG3
namespace Go.Proofs.Ytmfkgnfjjfnfmaa.XG
open Go.RowKit Go.Proofs.YtmfkgnfjjfnfmaaW.PrintWords Go.Proofs.YtmfkgnfjjfnfmaaW.PrintLast Go.Proofs.YtmfkgnfjjfnfmaaW.PrintMore
attribute [local go_sem] max2_int min2_int max_two min_two max_three min_three max_four min_four   -- for this text's walks alone
set_option linter.unusedVariables false
set_option linter.unusedSimpArgs false

/-! ### impl_Distance: function 105 -/
def impl_Distance.j0 : Nat → Int → Int → Bool → Int → Int → Option (Int)
  | 0, _, _, _, _, _ => none
  | k + 1, x1, x2, x16, x230000, x230001 => if x16 = true then (some (-1)) else (if x230000 = 0 then (none) else ((impl_gap.f (Int.tmod x1 x230000) (Int.tmod x2 x230000)).bind fun t232 => ((impl_gap.f (wrap64 (Int.tdiv x1 x230000)) (wrap64 (Int.tdiv x2 x230000))).bind fun t233 => (some (wrap64 (t232 + t233))))))
def impl_Distance.f (k : Nat) (a0_0 : Int) (a0_1 : Int) (a1 : Int) (a2 : Int) : Option (Int) := (impl_isNode.f a0_0 a0_1 a1).bind fun t230 => (if t230 = true then ((impl_isNode.f a0_0 a0_1 a2).bind fun t231 => (impl_Distance.j0 k a1 a2 (!t231) a0_0 a0_1)) else (impl_Distance.j0 k a1 a2 true a0_0 a0_1))
theorem impl_Distance.mono_l : ∀ k, (∀ y0 y1 y2 y3 y4, LeO (impl_Distance.j0 k y0 y1 y2 y3 y4) (impl_Distance.j0 (k + 1) y0 y1 y2 y3 y4))
  | 0 => fun _ _ _ _ _ r h => by simp [impl_Distance.j0] at h
  | k + 1 => by
    have ih0 := impl_Distance.mono_l k
    · intro y0 y1 y2 y3 y4
      unfold impl_Distance.j0
      repeat' first
      | (with_reducible exact ih0 _ _ _ _ _)
      | (with_reducible exact LeO.refl _)
      | (with_reducible exact LeO.none _)
      | (with_reducible refine LeO.ite ?_ ?_)
      | (with_reducible refine LeO.bind ?_ (fun _ => ?_))
      | exact ih0 _ _ _ _ _
      | exact LeO.none _
      | refine LeO.ite ?_ ?_
      | refine LeO.bind ?_ (fun _ => ?_)
theorem impl_Distance.mono : ∀ a0 a1 a2 a3 k, LeO (impl_Distance.f k a0 a1 a2 a3) (impl_Distance.f (k + 1) a0 a1 a2 a3) := by
  intro a0 a1 a2 a3 k
  have ih0 := impl_Distance.mono_l k
  unfold impl_Distance.f
  repeat' first
      | (with_reducible exact ih0 _ _ _ _ _)
      | (with_reducible exact LeO.refl _)
      | (with_reducible exact LeO.none _)
      | (with_reducible refine LeO.ite ?_ ?_)
      | (with_reducible refine LeO.bind ?_ (fun _ => ?_))
      | exact ih0 _ _ _ _ _
      | exact LeO.none _
      | refine LeO.ite ?_ ?_
      | refine LeO.bind ?_ (fun _ => ?_)
def impl_Distance.T3 : Bool × List (List Nat × List Nat) := (true, [([], []), ([], []), ([1], [1]), ([0, 2], [0, 2]), ([], []), ([], []), ([5], [5]), ([4, 6], [4, 6]), ([3, 7], [3, 7]), ([], []), ([], []), ([10], [10]), ([9, 11], [9, 11]), ([], []), ([], []), ([14], [14]), ([13, 15], [13, 15]), ([12, 16, 8], [12, 16]), ([8, 17], [8, 17]), ([18, 17, 0, 1, 2, 3, 4, 5, 6, 7, 8, 9, 10, 11, 12, 13, 14, 15, 16, 17, 18], [18])])
def impl_Distance.B3 : List Nat := [0, 0, 2, 7, 0, 0, 32, 112, 255, 0, 0, 1024, 3584, 0, 0, 16384, 57344, 131071, 262143, 524287]
theorem impl_Distance.tab3 : rtab .any (opsOf Try.f105 3) = impl_Distance.T3 := by kernel_rfl
theorem impl_Distance.bits3 : waitsOk impl_Distance.T3.2 impl_Distance.B3 = true := by kernel_rfl
set_option maxHeartbeats 8000000 in
set_option maxRecDepth 100000 in
theorem impl_Distance.calls (k : Nat) (a0_0 : Int) (a0_1 : Int) (a1 : Int) (a2 : Int) (r : Int) (w : World) (h : impl_Distance.f k a0_0 a0_1 a1 a2 = some r) :
    Calls Try.prog 105 #[.agg #[.int .i64 a0_0, .int .i64 a0_1], .int .i64 a1, .int .i64 a2] w fun e w' => e = .returned (.int .i64 r) ∧ Below w.heap.size w w' := by
  have hu32 := Try.underlying32
  have HB := Aside0.mk (Below.refl w.heap.size w)
  have H : ((impl_isNode.f a0_0 a0_1 a1).bind fun t230 => (if t230 = true then ((impl_isNode.f a0_0 a0_1 a2).bind fun t231 => (impl_Distance.j0 k a1 a2 (!t231) a0_0 a0_1)) else (impl_Distance.j0 k a1 a2 true a0_0 a0_1))) = some r := h
  clear h
  have HC4 := Aside0.mk H
  clear H
  go_enter Try.func105, Try.ntmps105
  go_upto_region 1 with (first | ((with_reducible refine gate_dst (N := 3) rfl ?_); refine box_event ?hg (N := 3) ?hd (cs := #[.int .i64 a0_0, .int .i64 a0_1]) (t := 32) ?hr ?_; (case hd => rfl); (case hg => rfl); (case hr => first | (go_simp; done) | (go_simp; rfl)); intro gb229 hg w5 hbox hb; have n0_ := Aside0.mk (below_step (by repeat (first | (with_reducible first | exact HB.out | apply below_alloc | apply pw_below_drewN | apply below_drew1) | exact HB.out)) hb); have n1_ := Aside0.mk (hbox); have n2_ := Aside0.mk ((by rw [hg]; exact (below_size (by repeat (first | (with_reducible first | exact HB.out | apply below_alloc | apply pw_below_drewN | apply below_drew1) | exact HB.out))) : w.heap.size ≤ gb229)); have n3_ := Aside0.mk ((by rw [hg]; exact (below_size (by repeat (first | (with_reducible first | exact HB.out | apply below_alloc | apply pw_below_drewN | apply below_drew1) | exact HB.out))) : w.heap.size ≤ gb229)); clear HB; have HB := n0_; have BK229 := n1_; have GW229 := n2_; have GE229 := n3_; clear n0_ n1_ n2_ n3_; clear hb hbox hg))
  (try simp only [Act.put, List.setIfInBounds_toArray, List.set_cons_zero, List.set_cons_succ])
  go_cut [16] (fun v16 wc => ∃ (kq : Nat) (x16_3 : Bool), v16 = .bool x16_3 ∧ Aside0 (impl_Distance.j0 kq a1 a2 x16_3 a0_0 a0_1 = some r) ∧ Aside0 (kq ≤ k) ∧ Aside0 (wc.heap[gb229]? = some (.cells #[.int .i64 a0_0, .int .i64 a0_1] 32 (0, 0))) ∧ Aside0 (Below w.heap.size w wc))
  case first =>
    have H := HC4.out
    clear HC4
    replace H := Option.bind_eq_some_iff.mp H
    obtain ⟨t230, A60, H⟩ := H
    replace H : (if t230 = true then ((impl_isNode.f a0_0 a0_1 a2).bind fun t231 => (impl_Distance.j0 k a1 a2 (!t231) a0_0 a0_1)) else (impl_Distance.j0 k a1 a2 true a0_0 a0_1)) = some r := H
    have A6 := Aside0.mk A60
    clear A60
    by_cases c7 : t230 = true
    · subst c7
      have H1 : ((impl_isNode.f a0_0 a0_1 a2).bind fun t231 => (impl_Distance.j0 k a1 a2 (!t231) a0_0 a0_1)) = some r := by rw [if_pos rfl] at H; exact H
      clear H
      have H := H1
      clear H1
      replace H := Option.bind_eq_some_iff.mp H
      obtain ⟨t231, A80, H⟩ := H
      replace H : (impl_Distance.j0 k a1 a2 (!t231) a0_0 a0_1) = some r := H
      have A8 := Aside0.mk A80
      clear A80
      have H' := Aside0.mk H
      clear H
      have hcz9_0 : w5.cell? ⟨gb229, 0, none⟩ = some (.int .i64 a0_0) := (blk_cell BK229.out 0).trans rfl
      have hcz9_1 : w5.cell? ⟨gb229, 1, none⟩ = some (.int .i64 a0_1) := (blk_cell BK229.out 1).trans rfl
      have hfz9_0 := blk_frozen BK229.out 0
      have hfz9_1 := blk_frozen BK229.out 1
      go_wp2_with (first | ((with_reducible refine gate_callee (f := 108) rfl ?_); refine goesL_ (some 9) rfl rfl Try.func108 (by kernel_rfl) rfl #[.agg #[.int .i64 a0_0, .int .i64 a0_1], .int .i64 a1] rfl (by (try simp only [List.map_toArray, List.map_cons, List.map_nil]); first | done | rfl | (simp only [List.length_drop, List.length_take]; rfl)) ?_; (with_reducible refine (impl_isNode.calls a0_0 a0_1 a1 true _ A6.out).mono ?_); rintro e w10 ⟨rfl, hb⟩; refine ⟨_, rfl, ?_⟩; have n0_ := Aside0.mk (blk_below (g := gb229) (o := .cells #[.int .i64 a0_0, .int .i64 a0_1] 32 (0, 0)) (by (with_reducible repeat (first | refine blk_drewN ?_ _ | refine blk_drew ?_ | refine blk_alloc ?_ _)); exact BK229.out) hb); have n1_ := Aside0.mk (below_step (by repeat (first | (with_reducible first | exact HB.out | apply below_alloc | apply pw_below_drewN | apply below_drew1 | refine below_set ?_ GE229.out) | exact HB.out)) hb); clear BK229; clear HB; have BK229 := n0_; have HB := n1_; clear n0_ n1_; (try clear hb); (try clear hb2); (try clear hk); (try clear hi); have hcz11_0 : w10.cell? ⟨gb229, 0, none⟩ = some (.int .i64 a0_0) := (blk_cell BK229.out 0).trans rfl; have hcz11_1 : w10.cell? ⟨gb229, 1, none⟩ = some (.int .i64 a0_1) := (blk_cell BK229.out 1).trans rfl; have hfz11_0 := blk_frozen BK229.out 0; have hfz11_1 := blk_frozen BK229.out 1) | (go_at_call 108; (with_reducible refine (impl_isNode.calls a0_0 a0_1 a2 t231 _ A8.out).mono ?_); rintro e w12 ⟨rfl, hb⟩; have n0_ := Aside0.mk (blk_below (g := gb229) (o := .cells #[.int .i64 a0_0, .int .i64 a0_1] 32 (0, 0)) (by (with_reducible repeat (first | refine blk_drewN ?_ _ | refine blk_drew ?_ | refine blk_alloc ?_ _)); exact BK229.out) hb); have n1_ := Aside0.mk (below_step (by repeat (first | (with_reducible first | exact HB.out | apply below_alloc | apply pw_below_drewN | apply below_drew1 | refine below_set ?_ GE229.out) | exact HB.out)) hb); clear BK229; clear HB; have BK229 := n0_; have HB := n1_; clear n0_ n1_; (try clear hb); (try clear hb2); (try clear hk); (try clear hi)))
      go_meet
      case rel => exact ⟨_, (!t231), (by first | rfl | (simp; done) | (simp [*]; done)), H', ⟨by first | omega | exact Nat.le_refl _⟩, ⟨by (with_reducible repeat (first | refine blk_drewN ?_ _ | refine blk_drew ?_ | refine blk_alloc ?_ _)); exact BK229.out⟩, ⟨by repeat (first | (with_reducible first | exact HB.out | apply below_alloc | apply pw_below_drewN | apply below_drew1 | refine below_set ?_ GE229.out) | exact HB.out)⟩⟩
    · replace c7 := Bool.eq_false_iff.mpr c7
      subst c7
      have H1 : (impl_Distance.j0 k a1 a2 true a0_0 a0_1) = some r := by rw [if_neg (show ¬ (false = true) by decide)] at H; exact H
      clear H
      have H := H1
      clear H1
      have H' := Aside0.mk H
      clear H
      have hcz13_0 : w5.cell? ⟨gb229, 0, none⟩ = some (.int .i64 a0_0) := (blk_cell BK229.out 0).trans rfl
      have hcz13_1 : w5.cell? ⟨gb229, 1, none⟩ = some (.int .i64 a0_1) := (blk_cell BK229.out 1).trans rfl
      have hfz13_0 := blk_frozen BK229.out 0
      have hfz13_1 := blk_frozen BK229.out 1
      go_wp2_with (first | ((with_reducible refine gate_callee (f := 108) rfl ?_); refine goesL_ (some 9) rfl rfl Try.func108 (by kernel_rfl) rfl #[.agg #[.int .i64 a0_0, .int .i64 a0_1], .int .i64 a1] rfl (by (try simp only [List.map_toArray, List.map_cons, List.map_nil]); first | done | rfl | (simp only [List.length_drop, List.length_take]; rfl)) ?_; (with_reducible refine (impl_isNode.calls a0_0 a0_1 a1 false _ A6.out).mono ?_); rintro e w14 ⟨rfl, hb⟩; refine ⟨_, rfl, ?_⟩; have n0_ := Aside0.mk (blk_below (g := gb229) (o := .cells #[.int .i64 a0_0, .int .i64 a0_1] 32 (0, 0)) (by (with_reducible repeat (first | refine blk_drewN ?_ _ | refine blk_drew ?_ | refine blk_alloc ?_ _)); exact BK229.out) hb); have n1_ := Aside0.mk (below_step (by repeat (first | (with_reducible first | exact HB.out | apply below_alloc | apply pw_below_drewN | apply below_drew1 | refine below_set ?_ GE229.out) | exact HB.out)) hb); clear BK229; clear HB; have BK229 := n0_; have HB := n1_; clear n0_ n1_; (try clear hb); (try clear hb2); (try clear hk); (try clear hi)))
      go_meet
      case rel => exact ⟨_, (true), (by first | rfl | (simp; done) | (simp [*]; done)), H', ⟨by first | omega | exact Nat.le_refl _⟩, ⟨by (with_reducible repeat (first | refine blk_drewN ?_ _ | refine blk_drew ?_ | refine blk_alloc ?_ _)); exact BK229.out⟩, ⟨by repeat (first | (with_reducible first | exact HB.out | apply below_alloc | apply pw_below_drewN | apply below_drew1 | refine below_set ?_ GE229.out) | exact HB.out)⟩⟩
  case rest =>
    clear HC4
    try clear c1
    try clear p2
    try clear c7
    try clear c10
    try clear hcz11_0
    try clear hcz11_1
    try clear hcz13_0
    try clear hcz13_1
    try clear hcz9_0
    try clear hcz9_1
    try clear hfz11_0
    try clear hfz11_1
    try clear hfz13_0
    try clear hfz13_1
    try clear hfz9_0
    try clear hfz9_1
    obtain ⟨kq, x16_3, rfl, HA, HJ3, BK229, HB⟩ := hcut
    cases kq with
    | zero => exact absurd HA.out (by simp [impl_Distance.j0])
    | succ kj3 =>
      have H := HA.out
      clear HA
      simp only [impl_Distance.j0] at H
      by_cases c15 : x16_3 = true
      · subst c15
        have H1 : (some (-1)) = some r := by rw [if_pos rfl] at H; exact H
        clear H
        have H := H1
        clear H1
        obtain rfl := Option.some.inj H
        go_wp2
        go_ret
        exact ⟨by first | rfl | (simp [errW_none, errW_some] <;> rfl) | (simp [*, errW_none, errW_some] <;> rfl), by repeat (first | (with_reducible first | exact HB.out | apply below_alloc | apply pw_below_drewN | apply below_drew1 | refine below_set ?_ GE229.out) | exact HB.out)⟩
      · replace c15 := Bool.eq_false_iff.mpr c15
        subst c15
        have H1 : (if a0_0 = 0 then (none) else ((impl_gap.f (Int.tmod a1 a0_0) (Int.tmod a2 a0_0)).bind fun t232 => ((impl_gap.f (wrap64 (Int.tdiv a1 a0_0)) (wrap64 (Int.tdiv a2 a0_0))).bind fun t233 => (some (wrap64 (t232 + t233)))))) = some r := by rw [if_neg (show ¬ (false = true) by decide)] at H; exact H
        clear H
        have H := H1
        clear H1
        by_cases c16 : a0_0 = 0
        · rw [if_pos c16] at H
          exact absurd H (by simp)
        · rw [if_neg c16] at H
          have c16b0 : (a0_0 == 0) = false := beq_eq_false_iff_ne.mpr c16
          have c16b1 : (a0_0 != 0) = true := bne_iff_ne.mpr c16
          replace H := Option.bind_eq_some_iff.mp H
          obtain ⟨t232, A170, H⟩ := H
          replace H : ((impl_gap.f (wrap64 (Int.tdiv a1 a0_0)) (wrap64 (Int.tdiv a2 a0_0))).bind fun t233 => (some (wrap64 (t232 + t233)))) = some r := H
          have A17 := Aside0.mk A170
          clear A170
          replace H := Option.bind_eq_some_iff.mp H
          obtain ⟨t233, A180, H⟩ := H
          replace H : (some (wrap64 (t232 + t233))) = some r := H
          have A18 := Aside0.mk A180
          clear A180
          obtain rfl := Option.some.inj H
          try go_wp2
          have n0_ := Aside0.mk (blk_drew BK229.out)
          have n1_ := Aside0.mk (below_drew1 HB.out)
          clear BK229
          clear HB
          have BK229 := n0_
          have HB := n1_
          clear n0_ n1_
          refine start_ (n := 20) (S := fun w' => w'.cell? ⟨gb229, 0, none⟩ = some (.int .i64 a0_0) ∧ w'.cell? ⟨gb229, 1, none⟩ = some (.int .i64 a0_1)) (ds := []) #[false, false, false, false, false, false, false, false, false, false, false, false, false, false, false, false, false, false, false, false] (by kernel_rfl) rfl rfl ⟨(blk_cell BK229.out 0).trans rfl, (blk_cell BK229.out 1).trans rfl⟩ (fun hHeld => ?_); refine with_tabW impl_Distance.tab3 impl_Distance.bits3 (fun HT_ HW_ => ?_)
          generalize wc.drew = w19 at BK229 HB hHeld ⊢
          refine pure_ (i := 0) (N := some 17) (v := ?_) (a' := ?_) #[true, false, false, false, false, false, false, false, false, false, false, false, false, false, false, false, false, false, false, false] rfl rfl (any_of HT_.out (by kernel_rfl)) (fun _ _ _ h => h) (Or.inl ⟨by rfl, ?_⟩) ?_ ?_
          rotate_left
          · intro w'
            go_simp
            with_reducible rfl
          rotate_left
          · simp only [Act.put, List.setIfInBounds_toArray, List.set_cons_zero, List.set_cons_succ, i64_w, i32_w]
            rfl
          refine pure_ (i := 1) (N := some 18) (v := ?_) (a' := ?_) #[true, true, false, false, false, false, false, false, false, false, false, false, false, false, false, false, false, false, false, false] rfl rfl (any_of HT_.out (by kernel_rfl)) (fun _ _ _ h => h) (Or.inl ⟨by rfl, ?_⟩) ?_ ?_
          rotate_left
          · intro w'
            go_simp
            with_reducible rfl
          rotate_left
          · simp only [Act.put, List.setIfInBounds_toArray, List.set_cons_zero, List.set_cons_succ, i64_w, i32_w]
            rfl
          refine pure_ (i := 4) (N := some 21) (v := ?_) (a' := ?_) #[true, true, false, false, true, false, false, false, false, false, false, false, false, false, false, false, false, false, false, false] rfl rfl (any_of HT_.out (by kernel_rfl)) (fun _ _ _ h => h) (Or.inl ⟨by rfl, ?_⟩) ?_ ?_
          rotate_left
          · intro w'
            go_simp
            with_reducible rfl
          rotate_left
          · simp only [Act.put, List.setIfInBounds_toArray, List.set_cons_zero, List.set_cons_succ, i64_w, i32_w]
            rfl
          refine pure_ (i := 5) (N := some 22) (v := ?_) (a' := ?_) #[true, true, false, false, true, true, false, false, false, false, false, false, false, false, false, false, false, false, false, false] rfl rfl (any_of HT_.out (by kernel_rfl)) (fun _ _ _ h => h) (Or.inl ⟨by rfl, ?_⟩) ?_ ?_
          rotate_left
          · intro w'
            go_simp
            with_reducible rfl
          rotate_left
          · simp only [Act.put, List.setIfInBounds_toArray, List.set_cons_zero, List.set_cons_succ, i64_w, i32_w]
            rfl
          refine pure_ (i := 9) (N := some 26) (v := ?_) (a' := ?_) #[true, true, false, false, true, true, false, false, false, true, false, false, false, false, false, false, false, false, false, false] rfl rfl (any_of HT_.out (by kernel_rfl)) (fun _ _ _ h => h) (Or.inl ⟨by rfl, ?_⟩) ?_ ?_
          rotate_left
          · intro w'
            go_simp
            with_reducible rfl
          rotate_left
          · simp only [Act.put, List.setIfInBounds_toArray, List.set_cons_zero, List.set_cons_succ, i64_w, i32_w]
            rfl
          refine pure_ (i := 10) (N := some 27) (v := ?_) (a' := ?_) #[true, true, false, false, true, true, false, false, false, true, true, false, false, false, false, false, false, false, false, false] rfl rfl (any_of HT_.out (by kernel_rfl)) (fun _ _ _ h => h) (Or.inl ⟨by rfl, ?_⟩) ?_ ?_
          rotate_left
          · intro w'
            go_simp
            with_reducible rfl
          rotate_left
          · simp only [Act.put, List.setIfInBounds_toArray, List.set_cons_zero, List.set_cons_succ, i64_w, i32_w]
            rfl
          refine pure_ (i := 13) (N := some 30) (v := ?_) (a' := ?_) #[true, true, false, false, true, true, false, false, false, true, true, false, false, true, false, false, false, false, false, false] rfl rfl (any_of HT_.out (by kernel_rfl)) (fun _ _ _ h => h) (Or.inl ⟨by rfl, ?_⟩) ?_ ?_
          rotate_left
          · intro w'
            go_simp
            with_reducible rfl
          rotate_left
          · simp only [Act.put, List.setIfInBounds_toArray, List.set_cons_zero, List.set_cons_succ, i64_w, i32_w]
            rfl
          refine pure_ (i := 14) (N := some 31) (v := ?_) (a' := ?_) #[true, true, false, false, true, true, false, false, false, true, true, false, false, true, true, false, false, false, false, false] rfl rfl (any_of HT_.out (by kernel_rfl)) (fun _ _ _ h => h) (Or.inl ⟨by rfl, ?_⟩) ?_ ?_
          rotate_left
          · intro w'
            go_simp
            with_reducible rfl
          rotate_left
          · simp only [Act.put, List.setIfInBounds_toArray, List.set_cons_zero, List.set_cons_succ, i64_w, i32_w]
            rfl
          refine take_ (i := 2) (N := some 19) (v := ?_) (a' := ?_) #[true, true, true, false, true, true, false, false, false, true, true, false, false, true, true, false, false, false, false, false] rfl rfl (take_ofW HT_.out HW_.out (by kernel_rfl)) (fun _ _ _ h => h) (Or.inl ⟨by rfl, ?_⟩) hHeld ?_ ?_
          rotate_left
          · rintro w' ⟨s0, s1⟩
            go_simp
            with_reducible rfl
          rotate_left
          · simp only [Act.put, List.setIfInBounds_toArray, List.set_cons_zero, List.set_cons_succ, i64_w, i32_w]
            rfl
          refine pure_ (i := 3) (N := some 20) (v := ?_) (a' := ?_) #[true, true, true, true, true, true, false, false, false, true, true, false, false, true, true, false, false, false, false, false] rfl rfl (any_of HT_.out (by kernel_rfl)) (fun _ _ _ h => h) (Or.inl ⟨by rfl, ?_⟩) ?_ ?_
          rotate_left
          · intro w'
            go_simp
            with_reducible rfl
          rotate_left
          · simp only [Act.put, List.setIfInBounds_toArray, List.set_cons_zero, List.set_cons_succ, i64_w, i32_w]
            rfl
          refine take_ (i := 6) (N := some 23) (v := ?_) (a' := ?_) #[true, true, true, true, true, true, true, false, false, true, true, false, false, true, true, false, false, false, false, false] rfl rfl (take_ofW HT_.out HW_.out (by kernel_rfl)) (fun _ _ _ h => h) (Or.inl ⟨by rfl, ?_⟩) hHeld ?_ ?_
          rotate_left
          · rintro w' ⟨s0, s1⟩
            go_simp
            with_reducible rfl
          rotate_left
          · simp only [Act.put, List.setIfInBounds_toArray, List.set_cons_zero, List.set_cons_succ, i64_w, i32_w]
            rfl
          refine pure_ (i := 7) (N := some 24) (v := ?_) (a' := ?_) #[true, true, true, true, true, true, true, true, false, true, true, false, false, true, true, false, false, false, false, false] rfl rfl (any_of HT_.out (by kernel_rfl)) (fun _ _ _ h => h) (Or.inl ⟨by rfl, ?_⟩) ?_ ?_
          rotate_left
          · intro w'
            go_simp
            with_reducible rfl
          rotate_left
          · simp only [Act.put, List.setIfInBounds_toArray, List.set_cons_zero, List.set_cons_succ, i64_w, i32_w]
            rfl
          refine take_ (i := 11) (N := some 28) (v := ?_) (a' := ?_) #[true, true, true, true, true, true, true, true, false, true, true, true, false, true, true, false, false, false, false, false] rfl rfl (take_ofW HT_.out HW_.out (by kernel_rfl)) (fun _ _ _ h => h) (Or.inl ⟨by rfl, ?_⟩) hHeld ?_ ?_
          rotate_left
          · rintro w' ⟨s0, s1⟩
            go_simp
            with_reducible rfl
          rotate_left
          · simp only [Act.put, List.setIfInBounds_toArray, List.set_cons_zero, List.set_cons_succ, i64_w, i32_w]
            rfl
          refine pure_ (i := 12) (N := some 29) (v := ?_) (a' := ?_) #[true, true, true, true, true, true, true, true, false, true, true, true, true, true, true, false, false, false, false, false] rfl rfl (any_of HT_.out (by kernel_rfl)) (fun _ _ _ h => h) (Or.inl ⟨by rfl, ?_⟩) ?_ ?_
          rotate_left
          · intro w'
            go_simp
            with_reducible rfl
          rotate_left
          · simp only [Act.put, List.setIfInBounds_toArray, List.set_cons_zero, List.set_cons_succ, i64_w, i32_w]
            rfl
          refine take_ (i := 15) (N := some 32) (v := ?_) (a' := ?_) #[true, true, true, true, true, true, true, true, false, true, true, true, true, true, true, true, false, false, false, false] rfl rfl (take_ofW HT_.out HW_.out (by kernel_rfl)) (fun _ _ _ h => h) (Or.inl ⟨by rfl, ?_⟩) hHeld ?_ ?_
          rotate_left
          · rintro w' ⟨s0, s1⟩
            go_simp
            with_reducible rfl
          rotate_left
          · simp only [Act.put, List.setIfInBounds_toArray, List.set_cons_zero, List.set_cons_succ, i64_w, i32_w]
            rfl
          refine pure_ (i := 16) (N := some 33) (v := ?_) (a' := ?_) #[true, true, true, true, true, true, true, true, false, true, true, true, true, true, true, true, true, false, false, false] rfl rfl (any_of HT_.out (by kernel_rfl)) (fun _ _ _ h => h) (Or.inl ⟨by rfl, ?_⟩) ?_ ?_
          rotate_left
          · intro w'
            go_simp
            with_reducible rfl
          rotate_left
          · simp only [Act.put, List.setIfInBounds_toArray, List.set_cons_zero, List.set_cons_succ, i64_w, i32_w]
            rfl
          refine one_ (i := 8) (N := some 25) #[true, true, true, true, true, true, true, true, true, true, true, true, true, true, true, true, true, false, false, false] rfl rfl (one_of HT_.out (by kernel_rfl)) (by decide) (fun K hK => ?_)
          refine goes_ Try.func143 (by kernel_rfl) rfl #[.int .i64 (Int.tmod a1 a0_0), .int .i64 (Int.tmod a2 a0_0)] (by rfl) rfl rfl (by (try simp only [List.map_toArray, List.map_cons, List.map_nil]); first | done | rfl | (simp only [List.length_drop, List.length_take]; rfl)) ?_
          with_reducible refine (impl_gap.calls (Int.tmod a1 a0_0) (Int.tmod a2 a0_0) t232 _ A17.out).mono ?_
          rintro e w20 ⟨rfl, hb⟩
          refine ⟨_, rfl, ?_⟩
          have n0_ := Aside0.mk (blk_below (g := gb229) (o := .cells #[.int .i64 a0_0, .int .i64 a0_1] 32 (0, 0)) (by (with_reducible repeat (first | refine blk_drewN ?_ _ | refine blk_drew ?_ | refine blk_alloc ?_ _)); exact BK229.out) hb)
          have n1_ := Aside0.mk (below_step (by repeat (first | (with_reducible first | exact HB.out | apply below_alloc | apply pw_below_drewN | apply below_drew1 | refine below_set ?_ GE229.out) | exact HB.out)) hb)
          clear BK229
          clear HB
          have BK229 := n0_
          have HB := n1_
          clear n0_ n1_
          (try clear hb)
          (try clear hb2)
          (try clear hk)
          (try clear hi)
          refine hK.out _ _ ⟨(blk_cell BK229.out 0).trans rfl, (blk_cell BK229.out 1).trans rfl⟩ (fun hHeld => ?_)
          clear hK K
          refine norm_ (a' := ?_) ?_ ?_
          rotate_left
          · show Act.put _ (some 25) _ = _
            simp only [Act.put, List.setIfInBounds_toArray, List.set_cons_zero, List.set_cons_succ, i64_w, i32_w]
            rfl
          refine one_ (i := 17) (N := some 34) #[true, true, true, true, true, true, true, true, true, true, true, true, true, true, true, true, true, true, false, false] rfl rfl (one_of HT_.out (by kernel_rfl)) (by decide) (fun K hK => ?_)
          refine goes_ Try.func143 (by kernel_rfl) rfl #[.int .i64 (wrap64 (Int.tdiv a1 a0_0)), .int .i64 (wrap64 (Int.tdiv a2 a0_0))] (by rfl) rfl rfl (by (try simp only [List.map_toArray, List.map_cons, List.map_nil]); first | done | rfl | (simp only [List.length_drop, List.length_take]; rfl)) ?_
          with_reducible refine (impl_gap.calls (wrap64 (Int.tdiv a1 a0_0)) (wrap64 (Int.tdiv a2 a0_0)) t233 _ A18.out).mono ?_
          rintro e w21 ⟨rfl, hb⟩
          refine ⟨_, rfl, ?_⟩
          have n0_ := Aside0.mk (blk_below (g := gb229) (o := .cells #[.int .i64 a0_0, .int .i64 a0_1] 32 (0, 0)) (by (with_reducible repeat (first | refine blk_drewN ?_ _ | refine blk_drew ?_ | refine blk_alloc ?_ _)); exact BK229.out) hb)
          have n1_ := Aside0.mk (below_step (by repeat (first | (with_reducible first | exact HB.out | apply below_alloc | apply pw_below_drewN | apply below_drew1 | refine below_set ?_ GE229.out) | exact HB.out)) hb)
          clear BK229
          clear HB
          have BK229 := n0_
          have HB := n1_
          clear n0_ n1_
          (try clear hb)
          (try clear hb2)
          (try clear hk)
          (try clear hi)
          refine hK.out _ _ ⟨(blk_cell BK229.out 0).trans rfl, (blk_cell BK229.out 1).trans rfl⟩ (fun hHeld => ?_)
          clear hK K
          refine norm_ (a' := ?_) ?_ ?_
          rotate_left
          · show Act.put _ (some 34) _ = _
            simp only [Act.put, List.setIfInBounds_toArray, List.set_cons_zero, List.set_cons_succ, i64_w, i32_w]
            rfl
          refine pure_ (i := 18) (N := some 35) (v := ?_) (a' := ?_) #[true, true, true, true, true, true, true, true, true, true, true, true, true, true, true, true, true, true, true, false] rfl rfl (any_of HT_.out (by kernel_rfl)) (fun _ _ _ h => h) (Or.inl ⟨by rfl, ?_⟩) ?_ ?_
          rotate_left
          · intro w'
            go_simp
            with_reducible rfl
          rotate_left
          · simp only [Act.put, List.setIfInBounds_toArray, List.set_cons_zero, List.set_cons_succ, i64_w, i32_w]
            rfl
          refine pure_ (i := 19) (N := some 6) (v := ?_) (a' := ?_) #[true, true, true, true, true, true, true, true, true, true, true, true, true, true, true, true, true, true, true, true] rfl rfl (any_of HT_.out (by kernel_rfl)) (fun _ _ _ h => h) (Or.inl ⟨by rfl, ?_⟩) ?_ ?_
          rotate_left
          · intro w'
            go_simp
            with_reducible rfl
          rotate_left
          · simp only [Act.put, List.setIfInBounds_toArray, List.set_cons_zero, List.set_cons_succ, i64_w, i32_w]
            rfl
          refine done_ (done_of HT_.out (by kernel_rfl)) ?_
          try go_wp2
          go_ret
          exact ⟨by first | rfl | (simp [errW_none, errW_some] <;> rfl) | (simp [*, errW_none, errW_some] <;> rfl), by repeat (first | (with_reducible first | exact HB.out | apply below_alloc | apply pw_below_drewN | apply below_drew1 | refine below_set ?_ GE229.out) | exact HB.out)⟩


-- NOT PRINTED: function 104 (impl_IsMinimal_1)


/-! ### impl_IsMinimal: function 45 (by hand) -/
def impl_IsMinimal.wk (k : Nat) (w h : Int) (l p : List Int) : List (Int × Int) → Option (Bool)
  | [] => some true
  | (a, b) :: r => (impl_WalkTable.f k w h l p a b).bind fun x => ((impl_Distance.f k w h a b).bind fun dd => (if ((x.length : Int) == dd) = true then (impl_IsMinimal.wk k w h l p r) else (some false)))
def impl_IsMinimal.f (k : Nat) (a0_0 : Int) (a0_1 : Int) (l0_2 : List Int) (l1_0 : List Int) : Option (Bool) := (impl_TableOk.f k a0_0 a0_1 l0_2 l1_0).bind fun t => (if t = true then ((impl_NodeCount.f a0_0 a0_1).bind fun n => (impl_IsMinimal.wk k a0_0 a0_1 l0_2 l1_0 (pall n.toNat 0))) else (some false))
theorem impl_IsMinimal.mono_w (w h : Int) (l p : List Int) (k : Nat) : ∀ r, LeO (impl_IsMinimal.wk k w h l p r) (impl_IsMinimal.wk (k + 1) w h l p r)
  | [] => LeO.refl _
  | (a, b) :: r => by
    have ih := impl_IsMinimal.mono_w w h l p k r
    unfold impl_IsMinimal.wk
    exact LeO.bind (impl_WalkTable.mono _ _ _ _ _ _ _) (fun x => LeO.bind (impl_Distance.mono _ _ _ _ _) (fun dd => LeO.ite ih (LeO.refl _)))
theorem impl_IsMinimal.mono : ∀ a0 a1 a2 a3 k, LeO (impl_IsMinimal.f k a0 a1 a2 a3) (impl_IsMinimal.f (k + 1) a0 a1 a2 a3) := by
  intro a0 a1 a2 a3 k
  unfold impl_IsMinimal.f
  exact LeO.bind (impl_TableOk.mono _ _ _ _ _) fun _ => LeO.ite (LeO.bind (LeO.refl _) fun _ => impl_IsMinimal.mono_w _ _ _ _ _ _) (LeO.refl _)
set_option maxHeartbeats 8000000 in
set_option maxRecDepth 100000 in
/-- the visitor of IsMinimal: is a walk as long as the distance -/
theorem impl_IsMinimal.clo (k : Nat) (w h : Int) (A : Option Addr) (c : Nat) (l : List Int) (A1 : Option Addr) (c1 : Nat) (p : List Int) (a b : Int) (x : List Int) (dd : Int) (bm bt : Nat) (W : World)
    (bk1 : W.heap[bm]? = some (.cells #[.int .i64 w, .int .i64 h, .slice A l.length c] 34 (0, 0))) (bk2 : W.heap[bt]? = some (.cells #[.slice A1 p.length c1] 36 (0, 0)))
    (hr : Kd.C (Kd.int .i64) W A l.length l) (hc : l.length ≤ c) (hr1 : Kd.C (Kd.int .i64) W A1 p.length p) (hc1 : p.length ≤ c1) (hx : impl_WalkTable.f k w h l p a b = some x) (hdist : impl_Distance.f k w h a b = some dd) :
    Calls Try.prog 104 #[.int .i64 a, .int .i64 b, .pointer (some ⟨bm, 0, none⟩), .pointer (some ⟨bt, 0, none⟩)] W fun e W' => e = .returned (.bool ((x.length : Int) == dd)) ∧ Below W.heap.size W W' := by
  have hu1 := Try.underlying34
  have hu2 := Try.underlying36
  have hu3 := Try.underlying32
  have HX := Aside0.mk hx
  have HD := Aside0.mk hdist
  have HR := Aside0.mk hr
  have HR1 := Aside0.mk hr1
  have BK1 := Aside0.mk bk1
  have BK2 := Aside0.mk bk2
  clear hx hdist hr hr1 bk1 bk2
  have cells : ∀ W', Below W.heap.size W W' → W'.cell? ⟨bm, 0, none⟩ = some (.int .i64 w) ∧ W'.cell? ⟨bm, 1, none⟩ = some (.int .i64 h) ∧ W'.cell? ⟨bm, 2, none⟩ = some (.slice A l.length c) ∧ W'.cell? ⟨bt, 0, none⟩ = some (.slice A1 p.length c1) ∧ Aside0 (Below W.heap.size W W') := fun W' hb =>
    ⟨(blk_cell (blk_below BK1.out hb) 0).trans rfl, (blk_cell (blk_below BK1.out hb) 1).trans rfl, (blk_cell (blk_below BK1.out hb) 2).trans rfl, (blk_cell (blk_below BK2.out hb) 0).trans rfl, ⟨hb⟩⟩
  have C0 := Aside0.mk cells
  clear cells
  obtain ⟨e0, e1, e2, e3, HB⟩ := C0.out W (Below.refl _ _)
  go_enter Try.func104, Try.ntmps104
  go_wp2_with (fail)
  go_region_held3 (fun w' => w'.cell? ⟨bm, 0, none⟩ = some (.int .i64 w) ∧ w'.cell? ⟨bm, 1, none⟩ = some (.int .i64 h) ∧ w'.cell? ⟨bm, 2, none⟩ = some (.slice A l.length c) ∧ w'.cell? ⟨bt, 0, none⟩ = some (.slice A1 p.length c1) ∧ Aside0 (Below W.heap.size W w')) (first | exact C0.out _ (below_drew1 HB.out) | assumption | go_keep) (first | (go_at_call 52; have hb0 := (‹(_ = some (Value.int .i64 w)) ∧ _ ∧ _ ∧ _ ∧ Aside0 (Below W.heap.size W _)›).2.2.2.2.out; refine (impl_WalkTable.calls k w h A c l A1 c1 p a b x _ (Kd.C_below HR.out hb0) hc (Kd.C_below HR1.out hb0) hc1 HX.out).mono ?_; rintro e w' ⟨v, rfl, ho, hb⟩; obtain ⟨A2, c2, rfl, hl2, _⟩ := Kd.R_reads ho; clear ho; have HBn := C0.out w' (below_step hb0 hb); clear hb hb0) | (go_at_call 105; have hb0 := (‹(_ = some (Value.int .i64 w)) ∧ _ ∧ _ ∧ _ ∧ Aside0 (Below W.heap.size W _)›).2.2.2.2.out; refine (impl_Distance.calls k w h a b dd _ HD.out).mono ?_; rintro e w' ⟨rfl, hb⟩; have HBn := C0.out w' (below_step hb0 hb); clear hb hb0))
  go_wp2
  go_ret
  exact ⟨by first | rfl | (simp; done) | (simp [*]; done), (‹(_ = some (Value.int .i64 w)) ∧ _ ∧ _ ∧ _ ∧ Aside0 (Below W.heap.size W _)›).2.2.2.2.out⟩

set_option maxHeartbeats 4000000 in
set_option maxRecDepth 100000 in
theorem impl_IsMinimal.calls (k : Nat) (a0_0 : Int) (a0_1 : Int) (A0_2 : Option Addr) (c0_2 : Nat) (l0_2 : List Int) (A1_0 : Option Addr) (c1_0 : Nat) (l1_0 : List Int) (r : Bool) (w : World) (hr0_2 : Kd.C (Kd.int .i64) w A0_2 l0_2.length l0_2) (hc0_2 : l0_2.length ≤ c0_2) (hr1_0 : Kd.C (Kd.int .i64) w A1_0 l1_0.length l1_0) (hc1_0 : l1_0.length ≤ c1_0) (h : impl_IsMinimal.f k a0_0 a0_1 l0_2 l1_0 = some r) :
    Calls Try.prog 45 #[.agg #[.int .i64 a0_0, .int .i64 a0_1, .slice A0_2 l0_2.length c0_2], .agg #[.slice A1_0 l1_0.length c1_0]] w fun e w' => e = .returned (.bool r) ∧ Below w.heap.size w w' := by
  have hu1 := Try.underlying34
  have hu2 := Try.underlying36
  have hu3 := Try.underlying32
  have HR := Aside0.mk hr0_2
  have HR1 := Aside0.mk hr1_0
  have HB := Aside0.mk (Below.refl w.heap.size w)
  unfold impl_IsMinimal.f at h
  obtain ⟨t, ht, h⟩ := Option.bind_eq_some_iff.1 h
  have HT := Aside0.mk ht
  have H := Aside0.mk h
  clear hr0_2 hr1_0 ht h
  go_enter Try.func45, Try.ntmps45
  go_wp2_with (first | ((with_reducible refine gate_dst (N := 2) rfl ?_); refine box_event ?hg (N := 2) ?hd (cs := #[.int .i64 a0_0, .int .i64 a0_1, .slice A0_2 l0_2.length c0_2]) (t := 34) ?hr ?_; (case hd => rfl); (case hg => rfl); (case hr => first | (go_simp; done) | (go_simp; rfl)); intro gm hg w1 hbox hb; have n1 := Aside0.mk (below_step (by repeat (first | (with_reducible first | exact HB.out | apply below_alloc | apply pw_below_drewN | apply below_drew1) | exact HB.out)) hb); have n2 := Aside0.mk hbox; clear HB hb hbox hg; have HB := n1; have BKm := n2; clear n1 n2) | ((with_reducible refine gate_dst (N := 3) rfl ?_); refine box_event ?hg (N := 3) ?hd (cs := #[.slice A1_0 l1_0.length c1_0]) (t := 36) ?hr ?_; (case hd => rfl); (case hg => rfl); (case hr => first | (go_simp; done) | (go_simp; rfl)); intro gt hg w2 hbox hb; have n1 := Aside0.mk (below_step (by repeat (first | (with_reducible first | exact HB.out | apply below_alloc | apply pw_below_drewN | apply below_drew1) | exact HB.out)) hb); have n2 := Aside0.mk hbox; have n3 := Aside0.mk (blk_below (by (with_reducible repeat (first | refine blk_drewN ?_ _ | refine blk_drew ?_ | refine blk_alloc ?_ _)); exact BKm.out) hb); clear HB BKm hb hbox hg; have HB := n1; have BKt := n2; have BKm := n3; clear n1 n2 n3; have e0 : w2.cell? ⟨gm, 0, none⟩ = some (.int .i64 a0_0) := (blk_cell BKm.out 0).trans rfl; have e1 : w2.cell? ⟨gm, 1, none⟩ = some (.int .i64 a0_1) := (blk_cell BKm.out 1).trans rfl; have e2 : w2.cell? ⟨gm, 2, none⟩ = some (.slice A0_2 l0_2.length c0_2) := (blk_cell BKm.out 2).trans rfl; have e3 : w2.cell? ⟨gt, 0, none⟩ = some (.slice A1_0 l1_0.length c1_0) := (blk_cell BKt.out 0).trans rfl))
  refine (impl_TableOk.calls k a0_0 a0_1 A0_2 c0_2 l0_2 A1_0 c1_0 l1_0 t _ (Kd.C_below HR.out (by repeat (first | (with_reducible first | exact HB.out | apply below_alloc | apply pw_below_drewN | apply below_drew1) | exact HB.out))) hc0_2 (Kd.C_below HR1.out (by repeat (first | (with_reducible first | exact HB.out | apply below_alloc | apply pw_below_drewN | apply below_drew1) | exact HB.out))) hc1_0 HT.out).mono ?_
  rintro e w3 ⟨rfl, hb⟩
  clear e0 e1 e2 e3
  have n1 := Aside0.mk (below_step (by repeat (first | (with_reducible first | exact HB.out | apply below_alloc | apply pw_below_drewN | apply below_drew1) | exact HB.out)) hb)
  have n2 := Aside0.mk (blk_below (by (with_reducible repeat (first | refine blk_drewN ?_ _ | refine blk_drew ?_ | refine blk_alloc ?_ _)); exact BKm.out) hb)
  have n3 := Aside0.mk (blk_below (by (with_reducible repeat (first | refine blk_drewN ?_ _ | refine blk_drew ?_ | refine blk_alloc ?_ _)); exact BKt.out) hb)
  clear HB BKm BKt hb
  have HB := n1
  have BKm := n2
  have BKt := n3
  clear n1 n2 n3
  have e0 : w3.cell? ⟨gm, 0, none⟩ = some (.int .i64 a0_0) := (blk_cell BKm.out 0).trans rfl
  have e1 : w3.cell? ⟨gm, 1, none⟩ = some (.int .i64 a0_1) := (blk_cell BKm.out 1).trans rfl
  have e2 : w3.cell? ⟨gm, 2, none⟩ = some (.slice A0_2 l0_2.length c0_2) := (blk_cell BKm.out 2).trans rfl
  have e3 : w3.cell? ⟨gt, 0, none⟩ = some (.slice A1_0 l1_0.length c1_0) := (blk_cell BKt.out 0).trans rfl
  cases t with
  | false =>
    have h := H.out
    clear H
    rw [if_neg (by decide)] at h
    obtain rfl := Option.some.inj h
    go_wp2
    go_ret
    exact ⟨rfl, HB.out⟩
  | true =>
    have h := (if_pos rfl).symm.trans H.out
    clear H
    obtain ⟨n, hn, h⟩ := Option.bind_eq_some_iff.1 h
    obtain ⟨N, rfl, hN⟩ := nodes_nat hn
    rw [Int.toNat_natCast] at h
    have H6 := Aside0.mk h
    have HN := Aside0.mk hn
    clear h hn
    go_wp2_with (fail)
    refine (impl_pairs.abs a0_0 a0_1 N HN.out hN 104 #[.pointer (some ⟨gm, 0, none⟩), .pointer (some ⟨gt, 0, none⟩)] r (fun l W => impl_IsMinimal.wk k a0_0 a0_1 l0_2 l1_0 l = some r ∧ Below w.heap.size w W ∧ W.heap[gm]? = some (.cells #[.int .i64 a0_0, .int .i64 a0_1, .slice A0_2 l0_2.length c0_2] 34 (0, 0)) ∧ W.heap[gt]? = some (.cells #[.slice A1_0 l1_0.length c1_0] 36 (0, 0))) (fun W => Below w.heap.size w W) (fun args W => by kernel_rfl) ?hJ ?hstep ?hend _ ⟨H6.out, (by repeat (first | (with_reducible first | exact HB.out | apply below_alloc | apply pw_below_drewN | apply below_drew1) | exact HB.out)), by (with_reducible repeat (first | refine blk_drewN ?_ _ | refine blk_drew ?_ | refine blk_alloc ?_ _)); exact BKm.out, by (with_reducible repeat (first | refine blk_drewN ?_ _ | refine blk_drew ?_ | refine blk_alloc ?_ _)); exact BKt.out⟩).mono ?_
    case hJ =>
      rintro l W W' ⟨h1, h2, h3, h4⟩ hb
      exact ⟨h1, below_step h2 hb, blk_below h3 hb, blk_below h4 hb⟩
    case hstep =>
      rintro a b l W ⟨h1, h2, h3, h4⟩
      unfold impl_IsMinimal.wk at h1
      obtain ⟨x, hx, h1⟩ := Option.bind_eq_some_iff.1 h1
      obtain ⟨dd, hd, h1⟩ := Option.bind_eq_some_iff.1 h1
      refine ⟨((x.length : Int) == dd), (impl_IsMinimal.clo k a0_0 a0_1 A0_2 c0_2 l0_2 A1_0 c1_0 l1_0 a b x dd gm gt W h3 h4 (Kd.C_below HR.out h2) hc0_2 (Kd.C_below HR1.out h2) hc1_0 hx hd).mono ?_⟩
      rintro e W' ⟨rfl, hb⟩
      refine ⟨rfl, fun hd => ⟨?_, below_step h2 hb, blk_below h3 hb, blk_below h4 hb⟩, fun hd => ⟨?_, below_step h2 hb⟩⟩
      · rw [if_pos hd] at h1; exact h1
      · rw [if_neg (by rw [hd]; decide)] at h1; exact (Option.some.inj h1).symm
    case hend =>
      rintro W ⟨h1, h2, _, _⟩
      exact ⟨(Option.some.inj h1).symm, h2⟩
    rintro e w' ⟨rfl, hb⟩
    go_wp2
    go_ret
    exact ⟨rfl, hb⟩



-- NOT PRINTED: function 106 (impl_LongestWalk_1)


/-! ### impl_LongestWalk: function 46 (by hand) -/
def cellv (W : World) (g : Nat) : Int := match W.cell? ⟨g, 0, none⟩ with | some (.int _ v) => v | _ => 0
/-- what the visitor of LongestWalk holds of the world: the boxes of the mesh and of the table, the block of the longest walk -/
def LwT (w0 : World) (w h : Int) (A : Option Addr) (n c : Nat) (A1 : Option Addr) (n1 c1 bo bm bt : Nat) (V : Int → Prop) (W : World) : Prop :=
  Below w0.heap.size w0 W ∧ W.heap[bm]? = some (.cells #[.int .i64 w, .int .i64 h, .slice A n c] 34 (0, 0)) ∧ W.heap[bt]? = some (.cells #[.slice A1 n1 c1] 36 (0, 0)) ∧ ∃ v : Int, V v ∧ W.heap[bo]? = some (.cells #[.int .i64 v] 3 (0, 0))
section
variable {w0 W W1 : World} {w h : Int} {A A1 : Option Addr} {n c n1 c1 bo bm bt : Nat} {V V' : Int → Prop}
theorem LwT.below (t : LwT w0 w h A n c A1 n1 c1 bo bm bt V W) (hb : Below W.heap.size W W1) : LwT w0 w h A n c A1 n1 c1 bo bm bt V W1 := by
  obtain ⟨t1, t2, t3, v, hv, t4⟩ := t
  exact ⟨below_step t1 hb, blk_below t2 hb, blk_below t3 hb, v, hv, blk_below t4 hb⟩
theorem LwT.drew (t : LwT w0 w h A n c A1 n1 c1 bo bm bt V W) : LwT w0 w h A n c A1 n1 c1 bo bm bt V W.drew := by
  obtain ⟨t1, t2, t3, v, hv, t4⟩ := t
  exact ⟨below_drew1 t1, blk_drew t2, blk_drew t3, v, hv, blk_drew t4⟩
theorem LwT.store (t : LwT w0 w h A n c A1 n1 c1 bo bm bt V W) (h0 : w0.heap.size ≤ bo) (nm : bm ≠ bo) (nt : bt ≠ bo) {u : Int} (hu : V' u) : LwT w0 w h A n c A1 n1 c1 bo bm bt V' (W.setCell ⟨bo, 0, none⟩ (.int .i64 u)) := by
  obtain ⟨t1, t2, t3, v, hv, t4⟩ := t
  exact ⟨below_set t1 h0, blk_far t2 nm _, blk_far t3 nt _, u, hu, blk_put t4 0 _ rfl⟩
theorem LwT.val (t : LwT w0 w h A n c A1 n1 c1 bo bm bt V W) : V (cellv W bo) := by
  obtain ⟨t1, t2, t3, v, hv, t4⟩ := t
  have e : W.cell? ⟨bo, 0, none⟩ = some (.int .i64 v) := (blk_cell t4 0).trans rfl
  have e2 : cellv W bo = v := by unfold cellv; rw [e]
  rw [e2]; exact hv
theorem LwT.cells (t : LwT w0 w h A n c A1 n1 c1 bo bm bt V W) : W.cell? ⟨bm, 0, none⟩ = some (.int .i64 w) ∧ W.cell? ⟨bm, 1, none⟩ = some (.int .i64 h) ∧ W.cell? ⟨bm, 2, none⟩ = some (.slice A n c) ∧ W.cell? ⟨bt, 0, none⟩ = some (.slice A1 n1 c1) ∧ W.cell? ⟨bo, 0, none⟩ = some (.int .i64 (cellv W bo)) ∧ W.frozen? ⟨bo, 0, none⟩ = false ∧ Aside0 (LwT w0 w h A n c A1 n1 c1 bo bm bt V W) := by
  have t0 := t
  obtain ⟨t1, t2, t3, v, hv, t4⟩ := t
  have e : W.cell? ⟨bo, 0, none⟩ = some (.int .i64 v) := (blk_cell t4 0).trans rfl
  have e2 : cellv W bo = v := by unfold cellv; rw [e]
  exact ⟨(blk_cell t2 0).trans rfl, (blk_cell t2 1).trans rfl, (blk_cell t2 2).trans rfl, (blk_cell t3 0).trans rfl, by rw [e2]; exact e, blk_frozen t4 0, ⟨t0⟩⟩
end
def mxn (a b : Nat) : Int := if a < b then (b : Int) else (a : Int)
theorem mxn_idem {mo len : Nat} {v : Int} (hv : v = (mo : Int) ∨ v = mxn mo len) : (if v < (len : Int) then (len : Int) else v) = mxn mo len := by
  unfold mxn at *
  rcases hv with rfl | rfl
  · split <;> split <;> omega
  · split <;> split <;> omega
set_option maxHeartbeats 8000000 in
set_option maxRecDepth 100000 in
/-- the visitor of LongestWalk: the longest walk till here -/
theorem impl_LongestWalk.clo (k : Nat) (w h : Int) (A : Option Addr) (c : Nat) (l : List Int) (A1 : Option Addr) (c1 : Nat) (p : List Int) (a b : Int) (x : List Int) (mo : Nat) (bo bm bt : Nat) (w0 W : World) (h0 : w0.heap.size ≤ bo) (nm : bm ≠ bo) (nt : bt ≠ bo)
    (ht : LwT w0 w h A l.length c A1 p.length c1 bo bm bt (fun v => v = (mo : Int)) W)
    (hr : Kd.C (Kd.int .i64) w0 A l.length l) (hc : l.length ≤ c) (hr1 : Kd.C (Kd.int .i64) w0 A1 p.length p) (hc1 : p.length ≤ c1) (hx : impl_WalkTable.f k w h l p a b = some x) :
    Calls Try.prog 106 #[.int .i64 a, .int .i64 b, .pointer (some ⟨bo, 0, none⟩), .pointer (some ⟨bm, 0, none⟩), .pointer (some ⟨bt, 0, none⟩)] W fun e W' => e = .returned (.bool true) ∧ LwT w0 w h A l.length c A1 p.length c1 bo bm bt (fun v => v = mxn mo x.length) W' := by
  have hu1 := Try.underlying34
  have hu2 := Try.underlying36
  have hu3 := Try.underlying32
  have HX := Aside0.mk hx
  have HR := Aside0.mk hr
  have HR1 := Aside0.mk hr1
  have HT := Aside0.mk ht
  have HN := Aside0.mk (And.intro h0 (And.intro nm nt))
  have CC : Aside0 (∀ W', LwT w0 w h A l.length c A1 p.length c1 bo bm bt (fun v => v = (mo : Int)) W' → W'.cell? ⟨bm, 0, none⟩ = some (.int .i64 w) ∧ W'.cell? ⟨bm, 1, none⟩ = some (.int .i64 h) ∧ W'.cell? ⟨bm, 2, none⟩ = some (.slice A l.length c) ∧ W'.cell? ⟨bt, 0, none⟩ = some (.slice A1 p.length c1) ∧ W'.cell? ⟨bo, 0, none⟩ = some (.int .i64 (mo : Int)) ∧ W'.frozen? ⟨bo, 0, none⟩ = false) := ⟨fun W' t => by
    obtain ⟨t1, t2, t3, v, rfl, t4⟩ := t
    exact ⟨(blk_cell t2 0).trans rfl, (blk_cell t2 1).trans rfl, (blk_cell t2 2).trans rfl, (blk_cell t3 0).trans rfl, (blk_cell t4 0).trans rfl, blk_frozen t4 0⟩⟩
  clear hx hr hr1 ht h0 nm nt
  obtain ⟨e0, e1, e2, e3, e4, e5⟩ := CC.out W HT.out
  go_enter Try.func106, Try.ntmps106
  go_wp2_with (fail)
  go_region_law (first | (go_simp; go_at_call 52; refine (impl_WalkTable.calls k w h A c l A1 c1 p a b x _ (Kd.C_below HR.out (below_drew1 HT.out.1)) hc (Kd.C_below HR1.out (below_drew1 HT.out.1)) hc1 HX.out).mono ?_; rintro e w' ⟨v, rfl, ho, hb⟩; obtain ⟨A2, c2, rfl, hl2, _⟩ := Kd.R_reads ho; clear ho; have HT2 := Aside0.mk (LwT.below (LwT.drew HT.out) hb); clear hb; obtain ⟨f0, f1, f2, f3, f4, f5⟩ := CC.out w' HT2.out))
  all_goals go_wp2
  all_goals go_ret
  all_goals exact ⟨by first | rfl | (simp; done), LwT.store HT2.out HN.out.1 HN.out.2.1 HN.out.2.2 (by first | rfl | (show _ = mxn mo x.length; unfold mxn; split <;> first | rfl | omega))⟩
def impl_LongestWalk.wk (k : Nat) (w h : Int) (l p : List Int) : List (Int × Int) → Nat → Option (Int)
  | [], mo => some (mo : Int)
  | (a, b) :: r, mo => (impl_WalkTable.f k w h l p a b).bind fun x => (impl_LongestWalk.wk k w h l p r (if mo < x.length then x.length else mo))
def impl_LongestWalk.f (k : Nat) (a0_0 : Int) (a0_1 : Int) (l0_2 : List Int) (l1_0 : List Int) : Option (Int) := (impl_TableOk.f k a0_0 a0_1 l0_2 l1_0).bind fun t => (if t = true then ((impl_NodeCount.f a0_0 a0_1).bind fun n => (impl_LongestWalk.wk k a0_0 a0_1 l0_2 l1_0 (pall n.toNat 0) 0)) else (some (-1)))
theorem impl_LongestWalk.mono_w (w h : Int) (l p : List Int) (k : Nat) : ∀ r mo, LeO (impl_LongestWalk.wk k w h l p r mo) (impl_LongestWalk.wk (k + 1) w h l p r mo)
  | [], _ => LeO.refl _
  | (a, b) :: r, mo => by
    unfold impl_LongestWalk.wk
    exact LeO.bind (impl_WalkTable.mono _ _ _ _ _ _ _) (fun x => impl_LongestWalk.mono_w w h l p k r _)
theorem impl_LongestWalk.mono : ∀ a0 a1 a2 a3 k, LeO (impl_LongestWalk.f k a0 a1 a2 a3) (impl_LongestWalk.f (k + 1) a0 a1 a2 a3) := by
  intro a0 a1 a2 a3 k
  unfold impl_LongestWalk.f
  exact LeO.bind (impl_TableOk.mono _ _ _ _ _) fun _ => LeO.ite (LeO.bind (LeO.refl _) fun _ => impl_LongestWalk.mono_w _ _ _ _ _ _ _) (LeO.refl _)
theorem mxn_nat (a b : Nat) : mxn a b = ((if a < b then b else a : Nat) : Int) := by unfold mxn; split <;> rfl
theorem alloc_at (w : World) (o : Obj) : (w.alloc o).heap[w.heap.size]? = some o := blk_new w o

set_option maxHeartbeats 4000000 in
set_option maxRecDepth 100000 in
theorem impl_LongestWalk.calls (k : Nat) (a0_0 : Int) (a0_1 : Int) (A0_2 : Option Addr) (c0_2 : Nat) (l0_2 : List Int) (A1_0 : Option Addr) (c1_0 : Nat) (l1_0 : List Int) (r : Int) (w : World) (hr0_2 : Kd.C (Kd.int .i64) w A0_2 l0_2.length l0_2) (hc0_2 : l0_2.length ≤ c0_2) (hr1_0 : Kd.C (Kd.int .i64) w A1_0 l1_0.length l1_0) (hc1_0 : l1_0.length ≤ c1_0) (h : impl_LongestWalk.f k a0_0 a0_1 l0_2 l1_0 = some r) :
    Calls Try.prog 46 #[.agg #[.int .i64 a0_0, .int .i64 a0_1, .slice A0_2 l0_2.length c0_2], .agg #[.slice A1_0 l1_0.length c1_0]] w fun e w' => e = .returned (.int .i64 r) ∧ Below w.heap.size w w' := by
  have hu1 := Try.underlying34
  have hu2 := Try.underlying36
  have hu3 := Try.underlying32
  have HR := Aside0.mk hr0_2
  have HR1 := Aside0.mk hr1_0
  have HB := Aside0.mk (Below.refl w.heap.size w)
  unfold impl_LongestWalk.f at h
  obtain ⟨t, ht, h⟩ := Option.bind_eq_some_iff.1 h
  have HT := Aside0.mk ht
  have H := Aside0.mk h
  clear hr0_2 hr1_0 ht h
  go_enter Try.func46, Try.ntmps46
  go_wp2_with (first | ((with_reducible refine gate_dst (N := 2) rfl ?_); refine box_event ?hg (N := 2) ?hd (cs := #[.int .i64 a0_0, .int .i64 a0_1, .slice A0_2 l0_2.length c0_2]) (t := 34) ?hr ?_; (case hd => rfl); (case hg => rfl); (case hr => first | (go_simp; done) | (go_simp; rfl)); intro gm hg w1 hbox hb; have n1 := Aside0.mk (below_step (by repeat (first | (with_reducible first | exact HB.out | apply below_alloc | apply pw_below_drewN | apply below_drew1) | exact HB.out)) hb); have n2 := Aside0.mk hbox; clear HB hb hbox hg; have HB := n1; have BKm := n2; clear n1 n2) | ((with_reducible refine gate_dst (N := 3) rfl ?_); refine box_event ?hg (N := 3) ?hd (cs := #[.slice A1_0 l1_0.length c1_0]) (t := 36) ?hr ?_; (case hd => rfl); (case hg => rfl); (case hr => first | (go_simp; done) | (go_simp; rfl)); intro gt hg w2 hbox hb; have n1 := Aside0.mk (below_step (by repeat (first | (with_reducible first | exact HB.out | apply below_alloc | apply pw_below_drewN | apply below_drew1) | exact HB.out)) hb); have n2 := Aside0.mk hbox; have n3 := Aside0.mk (blk_below (by (with_reducible repeat (first | refine blk_drewN ?_ _ | refine blk_drew ?_ | refine blk_alloc ?_ _)); exact BKm.out) hb); clear HB BKm hb hbox hg; have HB := n1; have BKt := n2; have BKm := n3; clear n1 n2 n3; have e0 : w2.cell? ⟨gm, 0, none⟩ = some (.int .i64 a0_0) := (blk_cell BKm.out 0).trans rfl; have e1 : w2.cell? ⟨gm, 1, none⟩ = some (.int .i64 a0_1) := (blk_cell BKm.out 1).trans rfl; have e2 : w2.cell? ⟨gm, 2, none⟩ = some (.slice A0_2 l0_2.length c0_2) := (blk_cell BKm.out 2).trans rfl; have e3 : w2.cell? ⟨gt, 0, none⟩ = some (.slice A1_0 l1_0.length c1_0) := (blk_cell BKt.out 0).trans rfl))
  refine (impl_TableOk.calls k a0_0 a0_1 A0_2 c0_2 l0_2 A1_0 c1_0 l1_0 t _ (Kd.C_below HR.out (by repeat (first | (with_reducible first | exact HB.out | apply below_alloc | apply pw_below_drewN | apply below_drew1) | exact HB.out))) hc0_2 (Kd.C_below HR1.out (by repeat (first | (with_reducible first | exact HB.out | apply below_alloc | apply pw_below_drewN | apply below_drew1) | exact HB.out))) hc1_0 HT.out).mono ?_
  rintro e w3 ⟨rfl, hb⟩
  clear e0 e1 e2 e3
  have n1 := Aside0.mk (below_step (by repeat (first | (with_reducible first | exact HB.out | apply below_alloc | apply pw_below_drewN | apply below_drew1) | exact HB.out)) hb)
  have n2 := Aside0.mk (blk_below (by (with_reducible repeat (first | refine blk_drewN ?_ _ | refine blk_drew ?_ | refine blk_alloc ?_ _)); exact BKm.out) hb)
  have n3 := Aside0.mk (blk_below (by (with_reducible repeat (first | refine blk_drewN ?_ _ | refine blk_drew ?_ | refine blk_alloc ?_ _)); exact BKt.out) hb)
  clear HB BKm BKt hb
  have HB := n1
  have BKm := n2
  have BKt := n3
  clear n1 n2 n3
  have e0 : w3.cell? ⟨gm, 0, none⟩ = some (.int .i64 a0_0) := (blk_cell BKm.out 0).trans rfl
  have e1 : w3.cell? ⟨gm, 1, none⟩ = some (.int .i64 a0_1) := (blk_cell BKm.out 1).trans rfl
  have e2 : w3.cell? ⟨gm, 2, none⟩ = some (.slice A0_2 l0_2.length c0_2) := (blk_cell BKm.out 2).trans rfl
  have e3 : w3.cell? ⟨gt, 0, none⟩ = some (.slice A1_0 l1_0.length c1_0) := (blk_cell BKt.out 0).trans rfl
  cases t with
  | false =>
    have h := H.out
    clear H
    rw [if_neg (by decide)] at h
    obtain rfl := Option.some.inj h
    go_wp2
    go_ret
    exact ⟨rfl, HB.out⟩
  | true =>
    have h := (if_pos rfl).symm.trans H.out
    clear H
    obtain ⟨n, hn, h⟩ := Option.bind_eq_some_iff.1 h
    obtain ⟨N, rfl, hN⟩ := nodes_nat hn
    rw [Int.toNat_natCast] at h
    have H6 := Aside0.mk h
    have HN := Aside0.mk hn
    clear h hn
    have n9 := Aside0.mk (show w.heap.size ≤ w3.heap.size from below_size HB.out)
    have NBm := Aside0.mk (Nat.ne_of_lt (blk_lt BKm.out))
    have NBt := Aside0.mk (Nat.ne_of_lt (blk_lt BKt.out))
    have T4 : LwT w a0_0 a0_1 A0_2 l0_2.length c0_2 A1_0 l1_0.length c1_0 w3.heap.size gm gt (fun v => v = ((0 : Nat) : Int)) (w3.alloc (.cells #[.int .i64 0] 3 (0, 0))) := ⟨below_alloc HB.out _, blk_alloc BKm.out _, blk_alloc BKt.out _, 0, rfl, alloc_at _ _⟩
    obtain ⟨g0, g1, g2, g3, _, g5, _⟩ := LwT.cells T4
    have T5 := Aside0.mk T4
    clear T4
    go_wp2_with (fail)
    refine (impl_pairs.abs a0_0 a0_1 N HN.out hN 106 #[.pointer (some ⟨w3.heap.size, 0, none⟩), .pointer (some ⟨gm, 0, none⟩), .pointer (some ⟨gt, 0, none⟩)] true (fun l W => ∃ mo : Nat, impl_LongestWalk.wk k a0_0 a0_1 l0_2 l1_0 l mo = some r ∧ LwT w a0_0 a0_1 A0_2 l0_2.length c0_2 A1_0 l1_0.length c1_0 w3.heap.size gm gt (fun v => v = (mo : Int)) W) (fun W => LwT w a0_0 a0_1 A0_2 l0_2.length c0_2 A1_0 l1_0.length c1_0 w3.heap.size gm gt (fun v => v = r) W) (fun args W => by kernel_rfl) ?hJ ?hstep ?hend _ ⟨0, H6.out, ?hT⟩).mono ?_
    case hT =>
      exact T5.out
    case hJ =>
      rintro l W W' ⟨mo, h1, h2⟩ hb
      exact ⟨mo, h1, LwT.below h2 hb⟩
    case hstep =>
      rintro a b l W ⟨mo, h1, h2⟩
      unfold impl_LongestWalk.wk at h1
      obtain ⟨x, hx, h1⟩ := Option.bind_eq_some_iff.1 h1
      refine ⟨true, (impl_LongestWalk.clo k a0_0 a0_1 A0_2 c0_2 l0_2 A1_0 c1_0 l1_0 a b x mo w3.heap.size gm gt w W n9.out NBm.out NBt.out h2 HR.out hc0_2 HR1.out hc1_0 hx).mono ?_⟩
      rintro e W' ⟨rfl, ht⟩
      refine ⟨rfl, fun _ => ⟨_, h1, ?_⟩, fun hd => absurd hd (by decide)⟩
      obtain ⟨t1, t2, t3, v, hv, t4⟩ := ht
      exact ⟨t1, t2, t3, v, hv.trans (mxn_nat _ _), t4⟩
    case hend =>
      rintro W ⟨mo, h1, t1, t2, t3, v, hv, t4⟩
      exact ⟨rfl, t1, t2, t3, v, hv.trans (Option.some.inj h1), t4⟩
    rintro e w' ⟨rfl, t1, t2, t3, v, hv, t4⟩
    subst hv
    have e9 : w'.cell? ⟨w3.heap.size, 0, none⟩ = some (.int .i64 v) := (blk_cell t4 0).trans rfl
    go_wp2
    go_ret
    exact ⟨rfl, t1⟩



/-! ### impl_Diameter: function 47 -/
def impl_Diameter.f (a0_0 : Int) (a0_1 : Int) : Option (Int) := (impl_GridOk.f a0_0 a0_1).bind fun t235 => (if t235 = true then (some (wrap64 ((wrap64 (a0_0 + a0_1)) - 2))) else (some (-1)))
set_option maxHeartbeats 8000000 in
set_option maxRecDepth 100000 in
theorem impl_Diameter.calls (a0_0 : Int) (a0_1 : Int) (r : Int) (w : World) (h : impl_Diameter.f a0_0 a0_1 = some r) :
    Calls Try.prog 47 #[.agg #[.int .i64 a0_0, .int .i64 a0_1]] w fun e w' => e = .returned (.int .i64 r) ∧ Below w.heap.size w w' := by
  have hu32 := Try.underlying32
  have HB := Aside0.mk (Below.refl w.heap.size w)
  have H : ((impl_GridOk.f a0_0 a0_1).bind fun t235 => (if t235 = true then (some (wrap64 ((wrap64 (a0_0 + a0_1)) - 2))) else (some (-1)))) = some r := h
  clear h
  replace H := Option.bind_eq_some_iff.mp H
  obtain ⟨t235, A20, H⟩ := H
  replace H : (if t235 = true then (some (wrap64 ((wrap64 (a0_0 + a0_1)) - 2))) else (some (-1))) = some r := H
  have A2 := Aside0.mk A20
  clear A20
  by_cases c3 : t235 = true
  · subst c3
    have H1 : (some (wrap64 ((wrap64 (a0_0 + a0_1)) - 2))) = some r := by rw [if_pos rfl] at H; exact H
    clear H
    have H := H1
    clear H1
    obtain rfl := Option.some.inj H
    go_enter Try.func47, Try.ntmps47
    go_wp2_with (first | ((with_reducible refine gate_dst (N := 1) rfl ?_); refine box_event ?hg (N := 1) ?hd (cs := #[.int .i64 a0_0, .int .i64 a0_1]) (t := 32) ?hr ?_; (case hd => rfl); (case hg => rfl); (case hr => first | (go_simp; done) | (go_simp; rfl)); intro gb234 hg w4 hbox hb; have n0_ := Aside0.mk (below_step (by repeat (first | (with_reducible first | exact HB.out | apply below_alloc | apply pw_below_drewN | apply below_drew1) | exact HB.out)) hb); have n1_ := Aside0.mk (hbox); have n2_ := Aside0.mk ((by rw [hg]; exact (below_size (by repeat (first | (with_reducible first | exact HB.out | apply below_alloc | apply pw_below_drewN | apply below_drew1) | exact HB.out))) : w.heap.size ≤ gb234)); have n3_ := Aside0.mk ((by rw [hg]; exact (below_size (by repeat (first | (with_reducible first | exact HB.out | apply below_alloc | apply pw_below_drewN | apply below_drew1) | exact HB.out))) : w.heap.size ≤ gb234)); clear HB; have HB := n0_; have BK234 := n1_; have GW234 := n2_; have GE234 := n3_; clear n0_ n1_ n2_ n3_; clear hb hbox hg; have hcz5_0 : w4.cell? ⟨gb234, 0, none⟩ = some (.int .i64 a0_0) := (blk_cell BK234.out 0).trans rfl; have hcz5_1 : w4.cell? ⟨gb234, 1, none⟩ = some (.int .i64 a0_1) := (blk_cell BK234.out 1).trans rfl; have hfz5_0 := blk_frozen BK234.out 0; have hfz5_1 := blk_frozen BK234.out 1) | ((with_reducible refine gate_callee (f := 97) rfl ?_); refine goesL_ (some 4) rfl rfl Try.func97 (by kernel_rfl) rfl #[.agg #[.int .i64 a0_0, .int .i64 a0_1]] rfl (by (try simp only [List.map_toArray, List.map_cons, List.map_nil]); first | done | rfl | (simp only [List.length_drop, List.length_take]; rfl)) ?_; (with_reducible refine (impl_GridOk.calls a0_0 a0_1 true _ A2.out).mono ?_); rintro e w6 ⟨rfl, hb⟩; refine ⟨_, rfl, ?_⟩; have n0_ := Aside0.mk (blk_below (g := gb234) (o := .cells #[.int .i64 a0_0, .int .i64 a0_1] 32 (0, 0)) (by (with_reducible repeat (first | refine blk_drewN ?_ _ | refine blk_drew ?_ | refine blk_alloc ?_ _)); exact BK234.out) hb); have n1_ := Aside0.mk (below_step (by repeat (first | (with_reducible first | exact HB.out | apply below_alloc | apply pw_below_drewN | apply below_drew1 | refine below_set ?_ GE234.out) | exact HB.out)) hb); clear BK234; clear HB; have BK234 := n0_; have HB := n1_; clear n0_ n1_; (try clear hb); (try clear hb2); (try clear hk); (try clear hi); have hcz7_0 : w6.cell? ⟨gb234, 0, none⟩ = some (.int .i64 a0_0) := (blk_cell BK234.out 0).trans rfl; have hcz7_1 : w6.cell? ⟨gb234, 1, none⟩ = some (.int .i64 a0_1) := (blk_cell BK234.out 1).trans rfl; have hfz7_0 := blk_frozen BK234.out 0; have hfz7_1 := blk_frozen BK234.out 1))
    go_ret
    exact ⟨by first | rfl | (simp [errW_none, errW_some] <;> rfl) | (simp [*, errW_none, errW_some] <;> rfl), by repeat (first | (with_reducible first | exact HB.out | apply below_alloc | apply pw_below_drewN | apply below_drew1 | refine below_set ?_ GE234.out) | exact HB.out)⟩
  · replace c3 := Bool.eq_false_iff.mpr c3
    subst c3
    have H1 : (some (-1)) = some r := by rw [if_neg (show ¬ (false = true) by decide)] at H; exact H
    clear H
    have H := H1
    clear H1
    obtain rfl := Option.some.inj H
    go_enter Try.func47, Try.ntmps47
    go_wp2_with (first | ((with_reducible refine gate_dst (N := 1) rfl ?_); refine box_event ?hg (N := 1) ?hd (cs := #[.int .i64 a0_0, .int .i64 a0_1]) (t := 32) ?hr ?_; (case hd => rfl); (case hg => rfl); (case hr => first | (go_simp; done) | (go_simp; rfl)); intro gb234 hg w8 hbox hb; have n0_ := Aside0.mk (below_step (by repeat (first | (with_reducible first | exact HB.out | apply below_alloc | apply pw_below_drewN | apply below_drew1) | exact HB.out)) hb); have n1_ := Aside0.mk (hbox); have n2_ := Aside0.mk ((by rw [hg]; exact (below_size (by repeat (first | (with_reducible first | exact HB.out | apply below_alloc | apply pw_below_drewN | apply below_drew1) | exact HB.out))) : w.heap.size ≤ gb234)); have n3_ := Aside0.mk ((by rw [hg]; exact (below_size (by repeat (first | (with_reducible first | exact HB.out | apply below_alloc | apply pw_below_drewN | apply below_drew1) | exact HB.out))) : w.heap.size ≤ gb234)); clear HB; have HB := n0_; have BK234 := n1_; have GW234 := n2_; have GE234 := n3_; clear n0_ n1_ n2_ n3_; clear hb hbox hg; have hcz9_0 : w8.cell? ⟨gb234, 0, none⟩ = some (.int .i64 a0_0) := (blk_cell BK234.out 0).trans rfl; have hcz9_1 : w8.cell? ⟨gb234, 1, none⟩ = some (.int .i64 a0_1) := (blk_cell BK234.out 1).trans rfl; have hfz9_0 := blk_frozen BK234.out 0; have hfz9_1 := blk_frozen BK234.out 1) | ((with_reducible refine gate_callee (f := 97) rfl ?_); refine goesL_ (some 4) rfl rfl Try.func97 (by kernel_rfl) rfl #[.agg #[.int .i64 a0_0, .int .i64 a0_1]] rfl (by (try simp only [List.map_toArray, List.map_cons, List.map_nil]); first | done | rfl | (simp only [List.length_drop, List.length_take]; rfl)) ?_; (with_reducible refine (impl_GridOk.calls a0_0 a0_1 false _ A2.out).mono ?_); rintro e w10 ⟨rfl, hb⟩; refine ⟨_, rfl, ?_⟩; have n0_ := Aside0.mk (blk_below (g := gb234) (o := .cells #[.int .i64 a0_0, .int .i64 a0_1] 32 (0, 0)) (by (with_reducible repeat (first | refine blk_drewN ?_ _ | refine blk_drew ?_ | refine blk_alloc ?_ _)); exact BK234.out) hb); have n1_ := Aside0.mk (below_step (by repeat (first | (with_reducible first | exact HB.out | apply below_alloc | apply pw_below_drewN | apply below_drew1 | refine below_set ?_ GE234.out) | exact HB.out)) hb); clear BK234; clear HB; have BK234 := n0_; have HB := n1_; clear n0_ n1_; (try clear hb); (try clear hb2); (try clear hk); (try clear hi)))
    go_ret
    exact ⟨by first | rfl | (simp [errW_none, errW_some] <;> rfl) | (simp [*, errW_none, errW_some] <;> rfl), by repeat (first | (with_reducible first | exact HB.out | apply below_alloc | apply pw_below_drewN | apply below_drew1 | refine below_set ?_ GE234.out) | exact HB.out)⟩


/-! ### impl_DifferingEntries: function 48 -/
def impl_DifferingEntries.l0 : Nat → Int → Int → Int → List Int → List Int → Option (Int)
  | 0, _, _, _, _, _ => none
  | k + 1, x5, x20, x21, x237000, x238000 => if x21 < x20 then (if 0 ≤ x21 then (if x21 < (x237000.length : Int) then (if x21 < (x238000.length : Int) then (if (rd x237000 x21) = (rd x238000 x21) then (impl_DifferingEntries.l0 k (wrap64 (x5 - 1)) x20 (wrap64 (x21 + 1)) x237000 x238000) else (impl_DifferingEntries.l0 k x5 x20 (wrap64 (x21 + 1)) x237000 x238000)) else (none)) else (none)) else (none)) else (some x5)
def impl_DifferingEntries.f (k : Nat) (l0_0 : List Int) (l1_0 : List Int) : Option (Int) := impl_DifferingEntries.l0 k (mx (l0_0.length : Int) (l1_0.length : Int)) (mn (l0_0.length : Int) (l1_0.length : Int)) 0 l0_0 l1_0
theorem impl_DifferingEntries.mono_l : ∀ k, (∀ y0 y1 y2 y3 y4, LeO (impl_DifferingEntries.l0 k y0 y1 y2 y3 y4) (impl_DifferingEntries.l0 (k + 1) y0 y1 y2 y3 y4))
  | 0 => fun _ _ _ _ _ r h => by simp [impl_DifferingEntries.l0] at h
  | k + 1 => by
    have ih0 := impl_DifferingEntries.mono_l k
    · intro y0 y1 y2 y3 y4
      unfold impl_DifferingEntries.l0
      repeat' first
      | (with_reducible exact ih0 _ _ _ _ _)
      | (with_reducible exact LeO.refl _)
      | (with_reducible exact LeO.none _)
      | (with_reducible refine LeO.ite ?_ ?_)
      | (with_reducible refine LeO.bind ?_ (fun _ => ?_))
      | exact ih0 _ _ _ _ _
      | exact LeO.none _
      | refine LeO.ite ?_ ?_
      | refine LeO.bind ?_ (fun _ => ?_)
theorem impl_DifferingEntries.mono : ∀ a0 a1 k, LeO (impl_DifferingEntries.f k a0 a1) (impl_DifferingEntries.f (k + 1) a0 a1) := by
  intro a0 a1 k
  have ih0 := impl_DifferingEntries.mono_l k
  unfold impl_DifferingEntries.f
  repeat' first
      | (with_reducible exact ih0 _ _ _ _ _)
      | (with_reducible exact LeO.refl _)
      | (with_reducible exact LeO.none _)
      | (with_reducible refine LeO.ite ?_ ?_)
      | (with_reducible refine LeO.bind ?_ (fun _ => ?_))
      | exact ih0 _ _ _ _ _
      | exact LeO.none _
      | refine LeO.ite ?_ ?_
      | refine LeO.bind ?_ (fun _ => ?_)
set_option maxHeartbeats 8000000 in
set_option maxRecDepth 100000 in
theorem impl_DifferingEntries.calls (k : Nat) (A0_0 : Option Addr) (c0_0 : Nat) (l0_0 : List Int) (A1_0 : Option Addr) (c1_0 : Nat) (l1_0 : List Int) (r : Int) (w : World) (hr0_0 : Kd.C (Kd.int .i64) w A0_0 l0_0.length l0_0) (hc0_0 : l0_0.length ≤ c0_0) (hr1_0 : Kd.C (Kd.int .i64) w A1_0 l1_0.length l1_0) (hc1_0 : l1_0.length ≤ c1_0) (h : impl_DifferingEntries.f k l0_0 l1_0 = some r) :
    Calls Try.prog 48 #[.agg #[.slice A0_0 l0_0.length c0_0], .agg #[.slice A1_0 l1_0.length c1_0]] w fun e w' => e = .returned (.int .i64 r) ∧ Below w.heap.size w w' := by
  have hu36 := Try.underlying36
  have HR0_0 := Aside0.mk hr0_0
  have HC0_0 := Aside0.mk hc0_0
  clear hr0_0 hc0_0
  have HR1_0 := Aside0.mk hr1_0
  have HC1_0 := Aside0.mk hc1_0
  clear hr1_0 hc1_0
  have HB := Aside0.mk (Below.refl w.heap.size w)
  have H : (impl_DifferingEntries.l0 k (mx (l0_0.length : Int) (l1_0.length : Int)) (mn (l0_0.length : Int) (l1_0.length : Int)) 0 l0_0 l1_0) = some r := h
  clear h
  obtain ⟨ji3, hji3⟩ : ∃ j_ : Int, (mx (l0_0.length : Int) (l1_0.length : Int)) = j_ := ⟨_, rfl⟩
  replace H : (impl_DifferingEntries.l0 k ji3 (mn (l0_0.length : Int) (l1_0.length : Int)) 0 l0_0 l1_0) = some r := by first | (rw [hji3] at H; exact H) | (simp only [hji3] at H ⊢; exact H)
  (try (have hji3l : 0 ≤ ji3 := by (rw [← hji3]; unfold mx; (repeat' split) <;> omega)))
  (try (have hji3m : 0 ≤ ji3 := by omega))
  have hji3_ : (if (l0_0.length : Int) < (l1_0.length : Int) then (l1_0.length : Int) else (l0_0.length : Int)) = ji3 := hji3
  have hji3n_ : (if l0_0.length < l1_0.length then (l1_0.length : Int) else (l0_0.length : Int)) = ji3 := by rw [← hji3_]; simp only [Int.ofNat_lt]
  obtain ⟨ji4, hji4⟩ : ∃ j_ : Int, (mn (l0_0.length : Int) (l1_0.length : Int)) = j_ := ⟨_, rfl⟩
  replace H : (impl_DifferingEntries.l0 k ji3 ji4 0 l0_0 l1_0) = some r := by first | (rw [hji4] at H; exact H) | (simp only [hji4] at H ⊢; exact H)
  (try (have hji4l : 0 ≤ ji4 := by (rw [← hji4]; unfold mn; (repeat' split) <;> omega)))
  (try (have hji4m : 0 ≤ ji4 := by omega))
  have hji4_ : (if (l1_0.length : Int) < (l0_0.length : Int) then (l1_0.length : Int) else (l0_0.length : Int)) = ji4 := hji4
  have hji4n_ : (if l1_0.length < l0_0.length then (l1_0.length : Int) else (l0_0.length : Int)) = ji4 := by rw [← hji4_]; simp only [Int.ofNat_lt]
  have H' := Aside0.mk H
  clear H
  go_enter Try.func48, Try.ntmps48
  go_wp2_with (first | ((with_reducible refine gate_dst (N := 2) rfl ?_); refine box_event ?hg (N := 2) ?hd (cs := #[.slice A0_0 l0_0.length c0_0]) (t := 36) ?hr ?_; (case hd => rfl); (case hg => rfl); (case hr => first | (go_simp; done) | (go_simp; rfl)); intro gb236 hg w5 hbox hb; have n0_ := Aside0.mk (below_step (by repeat (first | (with_reducible first | exact HB.out | apply below_alloc | apply pw_below_drewN | apply below_drew1) | exact HB.out)) hb); have n1_ := Aside0.mk (hbox); have n2_ := Aside0.mk ((by rw [hg]; exact (below_size (by repeat (first | (with_reducible first | exact HB.out | apply below_alloc | apply pw_below_drewN | apply below_drew1) | exact HB.out))) : w.heap.size ≤ gb236)); have n3_ := Aside0.mk ((by rw [hg]; exact (below_size (by repeat (first | (with_reducible first | exact HB.out | apply below_alloc | apply pw_below_drewN | apply below_drew1) | exact HB.out))) : w.heap.size ≤ gb236)); clear HB; have HB := n0_; have BK236 := n1_; have GW236 := n2_; have GE236 := n3_; clear n0_ n1_ n2_ n3_; clear hb hbox hg) | ((with_reducible refine gate_dst (N := 3) rfl ?_); refine box_event ?hg (N := 3) ?hd (cs := #[.slice A1_0 l1_0.length c1_0]) (t := 36) ?hr ?_; (case hd => rfl); (case hg => rfl); (case hr => first | (go_simp; done) | (go_simp; rfl)); intro gb237 hg w6 hbox hb; have n0_ := Aside0.mk (blk_below (g := gb236) (o := .cells #[.slice A0_0 l0_0.length c0_0] 36 (0, 0)) (by (with_reducible repeat (first | refine blk_drewN ?_ _ | refine blk_drew ?_ | refine blk_alloc ?_ _)); exact BK236.out) hb); have n1_ := Aside0.mk (below_step (by repeat (first | (with_reducible first | exact HB.out | apply below_alloc | apply pw_below_drewN | apply below_drew1 | refine below_set ?_ GE236.out) | exact HB.out)) hb); have n2_ := Aside0.mk (hbox); have n3_ := Aside0.mk ((by rw [hg]; exact (below_size (by repeat (first | (with_reducible first | exact HB.out | apply below_alloc | apply pw_below_drewN | apply below_drew1 | refine below_set ?_ GE236.out) | exact HB.out))) : w.heap.size ≤ gb237)); have n4_ := Aside0.mk ((by rw [hg]; exact (below_size (by repeat (first | (with_reducible first | exact HB.out | apply below_alloc | apply pw_below_drewN | apply below_drew1 | refine below_set ?_ GE236.out) | exact HB.out))) : w.heap.size ≤ gb237)); have n5_ := Aside0.mk ((by rw [hg]; exact Nat.ne_of_lt (blk_lt (g := gb236) (o := .cells #[.slice A0_0 l0_0.length c0_0] 36 (0, 0)) (by (with_reducible repeat (first | refine blk_drewN ?_ _ | refine blk_drew ?_ | refine blk_alloc ?_ _)); exact BK236.out)) : gb236 ≠ gb237)); have n6_ := Aside0.mk ((by rw [hg]; exact Nat.ne_of_gt (blk_lt (g := gb236) (o := .cells #[.slice A0_0 l0_0.length c0_0] 36 (0, 0)) (by (with_reducible repeat (first | refine blk_drewN ?_ _ | refine blk_drew ?_ | refine blk_alloc ?_ _)); exact BK236.out)) : gb237 ≠ gb236)); clear BK236; clear HB; have BK236 := n0_; have HB := n1_; have BK237 := n2_; have GW237 := n3_; have GE237 := n4_; have NB236_237 := n5_; have NB237_236 := n6_; clear n0_ n1_ n2_ n3_ n4_ n5_ n6_; clear hb hbox hg; have hnb7 := NB236_237.out; have hnc7 := NB237_236.out; have hcz8_0 : w6.cell? ⟨gb236, 0, none⟩ = some (.slice A0_0 l0_0.length c0_0) := (blk_cell BK236.out 0).trans rfl; have hfz8_0 := blk_frozen BK236.out 0; have hcz9_0 : w6.cell? ⟨gb237, 0, none⟩ = some (.slice A1_0 l1_0.length c1_0) := (blk_cell BK237.out 0).trans rfl; have hfz9_0 := blk_frozen BK237.out 0))
  repeat (go_quiet (first | ((with_reducible refine gate_dst (N := 2) rfl ?_); refine box_event ?hg (N := 2) ?hd (cs := #[.slice A0_0 l0_0.length c0_0]) (t := 36) ?hr ?_; (case hd => rfl); (case hg => rfl); (case hr => first | (go_simp; done) | (go_simp; rfl)); intro gb236 hg w5 hbox hb; have n0_ := Aside0.mk (below_step (by repeat (first | (with_reducible first | exact HB.out | apply below_alloc | apply pw_below_drewN | apply below_drew1) | exact HB.out)) hb); have n1_ := Aside0.mk (hbox); have n2_ := Aside0.mk ((by rw [hg]; exact (below_size (by repeat (first | (with_reducible first | exact HB.out | apply below_alloc | apply pw_below_drewN | apply below_drew1) | exact HB.out))) : w.heap.size ≤ gb236)); have n3_ := Aside0.mk ((by rw [hg]; exact (below_size (by repeat (first | (with_reducible first | exact HB.out | apply below_alloc | apply pw_below_drewN | apply below_drew1) | exact HB.out))) : w.heap.size ≤ gb236)); clear HB; have HB := n0_; have BK236 := n1_; have GW236 := n2_; have GE236 := n3_; clear n0_ n1_ n2_ n3_; clear hb hbox hg) | ((with_reducible refine gate_dst (N := 3) rfl ?_); refine box_event ?hg (N := 3) ?hd (cs := #[.slice A1_0 l1_0.length c1_0]) (t := 36) ?hr ?_; (case hd => rfl); (case hg => rfl); (case hr => first | (go_simp; done) | (go_simp; rfl)); intro gb237 hg w6 hbox hb; have n0_ := Aside0.mk (blk_below (g := gb236) (o := .cells #[.slice A0_0 l0_0.length c0_0] 36 (0, 0)) (by (with_reducible repeat (first | refine blk_drewN ?_ _ | refine blk_drew ?_ | refine blk_alloc ?_ _)); exact BK236.out) hb); have n1_ := Aside0.mk (below_step (by repeat (first | (with_reducible first | exact HB.out | apply below_alloc | apply pw_below_drewN | apply below_drew1 | refine below_set ?_ GE236.out) | exact HB.out)) hb); have n2_ := Aside0.mk (hbox); have n3_ := Aside0.mk ((by rw [hg]; exact (below_size (by repeat (first | (with_reducible first | exact HB.out | apply below_alloc | apply pw_below_drewN | apply below_drew1 | refine below_set ?_ GE236.out) | exact HB.out))) : w.heap.size ≤ gb237)); have n4_ := Aside0.mk ((by rw [hg]; exact (below_size (by repeat (first | (with_reducible first | exact HB.out | apply below_alloc | apply pw_below_drewN | apply below_drew1 | refine below_set ?_ GE236.out) | exact HB.out))) : w.heap.size ≤ gb237)); have n5_ := Aside0.mk ((by rw [hg]; exact Nat.ne_of_lt (blk_lt (g := gb236) (o := .cells #[.slice A0_0 l0_0.length c0_0] 36 (0, 0)) (by (with_reducible repeat (first | refine blk_drewN ?_ _ | refine blk_drew ?_ | refine blk_alloc ?_ _)); exact BK236.out)) : gb236 ≠ gb237)); have n6_ := Aside0.mk ((by rw [hg]; exact Nat.ne_of_gt (blk_lt (g := gb236) (o := .cells #[.slice A0_0 l0_0.length c0_0] 36 (0, 0)) (by (with_reducible repeat (first | refine blk_drewN ?_ _ | refine blk_drew ?_ | refine blk_alloc ?_ _)); exact BK236.out)) : gb237 ≠ gb236)); clear BK236; clear HB; have BK236 := n0_; have HB := n1_; have BK237 := n2_; have GW237 := n3_; have GE237 := n4_; have NB236_237 := n5_; have NB237_236 := n6_; clear n0_ n1_ n2_ n3_ n4_ n5_ n6_; clear hb hbox hg; have hnb7 := NB236_237.out; have hnc7 := NB237_236.out; have hcz8_0 : w6.cell? ⟨gb236, 0, none⟩ = some (.slice A0_0 l0_0.length c0_0) := (blk_cell BK236.out 0).trans rfl; have hfz8_0 := blk_frozen BK236.out 0; have hcz9_0 : w6.cell? ⟨gb237, 0, none⟩ = some (.slice A1_0 l1_0.length c1_0) := (blk_cell BK237.out 0).trans rfl; have hfz9_0 := blk_frozen BK237.out 0)); try go_wp2_with (first | ((with_reducible refine gate_dst (N := 2) rfl ?_); refine box_event ?hg (N := 2) ?hd (cs := #[.slice A0_0 l0_0.length c0_0]) (t := 36) ?hr ?_; (case hd => rfl); (case hg => rfl); (case hr => first | (go_simp; done) | (go_simp; rfl)); intro gb236 hg w5 hbox hb; have n0_ := Aside0.mk (below_step (by repeat (first | (with_reducible first | exact HB.out | apply below_alloc | apply pw_below_drewN | apply below_drew1) | exact HB.out)) hb); have n1_ := Aside0.mk (hbox); have n2_ := Aside0.mk ((by rw [hg]; exact (below_size (by repeat (first | (with_reducible first | exact HB.out | apply below_alloc | apply pw_below_drewN | apply below_drew1) | exact HB.out))) : w.heap.size ≤ gb236)); have n3_ := Aside0.mk ((by rw [hg]; exact (below_size (by repeat (first | (with_reducible first | exact HB.out | apply below_alloc | apply pw_below_drewN | apply below_drew1) | exact HB.out))) : w.heap.size ≤ gb236)); clear HB; have HB := n0_; have BK236 := n1_; have GW236 := n2_; have GE236 := n3_; clear n0_ n1_ n2_ n3_; clear hb hbox hg) | ((with_reducible refine gate_dst (N := 3) rfl ?_); refine box_event ?hg (N := 3) ?hd (cs := #[.slice A1_0 l1_0.length c1_0]) (t := 36) ?hr ?_; (case hd => rfl); (case hg => rfl); (case hr => first | (go_simp; done) | (go_simp; rfl)); intro gb237 hg w6 hbox hb; have n0_ := Aside0.mk (blk_below (g := gb236) (o := .cells #[.slice A0_0 l0_0.length c0_0] 36 (0, 0)) (by (with_reducible repeat (first | refine blk_drewN ?_ _ | refine blk_drew ?_ | refine blk_alloc ?_ _)); exact BK236.out) hb); have n1_ := Aside0.mk (below_step (by repeat (first | (with_reducible first | exact HB.out | apply below_alloc | apply pw_below_drewN | apply below_drew1 | refine below_set ?_ GE236.out) | exact HB.out)) hb); have n2_ := Aside0.mk (hbox); have n3_ := Aside0.mk ((by rw [hg]; exact (below_size (by repeat (first | (with_reducible first | exact HB.out | apply below_alloc | apply pw_below_drewN | apply below_drew1 | refine below_set ?_ GE236.out) | exact HB.out))) : w.heap.size ≤ gb237)); have n4_ := Aside0.mk ((by rw [hg]; exact (below_size (by repeat (first | (with_reducible first | exact HB.out | apply below_alloc | apply pw_below_drewN | apply below_drew1 | refine below_set ?_ GE236.out) | exact HB.out))) : w.heap.size ≤ gb237)); have n5_ := Aside0.mk ((by rw [hg]; exact Nat.ne_of_lt (blk_lt (g := gb236) (o := .cells #[.slice A0_0 l0_0.length c0_0] 36 (0, 0)) (by (with_reducible repeat (first | refine blk_drewN ?_ _ | refine blk_drew ?_ | refine blk_alloc ?_ _)); exact BK236.out)) : gb236 ≠ gb237)); have n6_ := Aside0.mk ((by rw [hg]; exact Nat.ne_of_gt (blk_lt (g := gb236) (o := .cells #[.slice A0_0 l0_0.length c0_0] 36 (0, 0)) (by (with_reducible repeat (first | refine blk_drewN ?_ _ | refine blk_drew ?_ | refine blk_alloc ?_ _)); exact BK236.out)) : gb237 ≠ gb236)); clear BK236; clear HB; have BK236 := n0_; have HB := n1_; have BK237 := n2_; have GW237 := n3_; have GE237 := n4_; have NB236_237 := n5_; have NB237_236 := n6_; clear n0_ n1_ n2_ n3_ n4_ n5_ n6_; clear hb hbox hg; have hnb7 := NB236_237.out; have hnc7 := NB237_236.out; have hcz8_0 : w6.cell? ⟨gb236, 0, none⟩ = some (.slice A0_0 l0_0.length c0_0) := (blk_cell BK236.out 0).trans rfl; have hfz8_0 := blk_frozen BK236.out 0; have hcz9_0 : w6.cell? ⟨gb237, 0, none⟩ = some (.slice A1_0 l1_0.length c1_0) := (blk_cell BK237.out 0).trans rfl; have hfz9_0 := blk_frozen BK237.out 0)))
  go_loopg [5, 21] k (fun kq v5 v21 w' => ∃ (x5_1 : Int) (x21_1 : Int), v5 = .int .i64 x5_1 ∧ v21 = .int .i64 x21_1 ∧ Aside0 (impl_DifferingEntries.l0 kq x5_1 ji4 x21_1 l0_0 l1_0 = some r) ∧ Aside0 (kq ≤ k) ∧ Aside0 (w'.heap[gb236]? = some (.cells #[(.slice A0_0 l0_0.length c0_0)] 36 (0, 0))) ∧ Aside0 (w'.heap[gb237]? = some (.cells #[(.slice A1_0 l1_0.length c1_0)] 36 (0, 0))) ∧ Aside0 (Below w.heap.size w w'))
  case atStart => exact ⟨(ji3), (0), (by first | rfl | (simp; done) | (simp only [← hji3] <;> (first | rfl | simp)) | (simp [*]; done)), (by first | rfl | (simp; done) | (simp [*]; done)), H', ⟨Nat.le_refl _⟩, ⟨by (with_reducible repeat (first | refine blk_drewN ?_ _ | refine blk_drew ?_ | refine blk_alloc ?_ _)); exact BK236.out⟩, ⟨by (with_reducible repeat (first | refine blk_drewN ?_ _ | refine blk_drew ?_ | refine blk_alloc ?_ _)); exact BK237.out⟩, ⟨by repeat (first | (with_reducible first | exact HB.out | apply below_alloc | apply pw_below_drewN | apply below_drew1 | refine below_set ?_ GE236.out | refine below_set ?_ GE237.out) | exact HB.out)⟩⟩
  case round =>
    clear H'
    try clear c1
    try clear p2
    try clear c4
    try clear c7
    try clear hcz8_0
    try clear hcz9_0
    try clear hfz8_0
    try clear hfz9_0
    obtain ⟨x5_1, x21_1, rfl, rfl, HA, HK1, BK236, BK237, HB⟩ := hrel
    cases gk with
    | zero => exact absurd HA.out (by simp [impl_DifferingEntries.l0])
    | succ k1 =>
      have H := HA.out
      clear HA
      simp only [impl_DifferingEntries.l0] at H
      by_cases c10 : x21_1 < ji4
      · rw [if_pos c10] at H
        have c10b0 : decide (x21_1 < ji4) = true := decide_eq_true c10
        clear c10
        by_cases c11 : 0 ≤ x21_1
        · rw [if_pos c11] at H
          have c11b0 : decide (0 ≤ x21_1) = true := decide_eq_true c11
          clear c11
          by_cases c12 : x21_1 < (l0_0.length : Int)
          · rw [if_pos c12] at H
            have c12b0 : decide (x21_1 < (l0_0.length : Int)) = true := decide_eq_true c12
            clear c12
            by_cases c13 : x21_1 < (l1_0.length : Int)
            · rw [if_pos c13] at H
              have c13b0 : decide (x21_1 < (l1_0.length : Int)) = true := decide_eq_true c13
              clear c13
              by_cases c14 : (rd l0_0 x21_1) = (rd l1_0 x21_1)
              · rw [if_pos c14] at H
                have c14b0 : ((rd l0_0 x21_1) == (rd l1_0 x21_1)) = true := beq_iff_eq.mpr c14
                have c14b1 : ((rd l0_0 x21_1) != (rd l1_0 x21_1)) = false := bne_eq_false_iff_eq.mpr c14
                clear c14
                have H' := Aside0.mk H
                clear H
                have hnb15 := NB236_237.out
                have hnc15 := NB237_236.out
                have hcz16_0 : wr.cell? ⟨gb236, 0, none⟩ = some (.slice A0_0 l0_0.length c0_0) := (blk_cell BK236.out 0).trans rfl
                have hfz16_0 := blk_frozen BK236.out 0
                have p238 : 0 ≤ (x21_1 : Int) := of_decide_eq_true (by first | (with_reducible assumption) | assumption)
                have q238 : x21_1 < (l0_0.length : Int) := of_decide_eq_true (by first | (with_reducible assumption) | assumption)
                obtain ⟨ad238, e238, hx238_0⟩ := Kd.at_int HR0_0.out x21_1 p238 q238
                cases e238
                replace hx238_0 := (HB.out.cell (World.block_lt_of_cell? w _ hx238_0)).trans hx238_0
                replace p238 := eq_true p238
                replace q238 := eq_true q238
                have hcz17_0 : wr.cell? ⟨gb237, 0, none⟩ = some (.slice A1_0 l1_0.length c1_0) := (blk_cell BK237.out 0).trans rfl
                have hfz17_0 := blk_frozen BK237.out 0
                have p239 : 0 ≤ (x21_1 : Int) := of_decide_eq_true (by first | (with_reducible assumption) | assumption)
                have q239 : x21_1 < (l1_0.length : Int) := of_decide_eq_true (by first | (with_reducible assumption) | assumption)
                obtain ⟨ad239, e239, hx239_0⟩ := Kd.at_int HR1_0.out x21_1 p239 q239
                cases e239
                replace hx239_0 := (HB.out.cell (World.block_lt_of_cell? w _ hx239_0)).trans hx239_0
                replace p239 := eq_true p239
                replace q239 := eq_true q239
                go_wp2
                repeat (go_quiet (fail); try go_wp2)
                go_roundg k1
                case measure => have := HK1.out; omega
                case rel => exact ⟨(wrap64 (x5_1 - 1)), (wrap64 (x21_1 + 1)), (by first | rfl | (simp; done) | (simp [*]; done)), (by first | rfl | (simp; done) | (simp [*]; done)), H', ⟨by have := HK1.out; omega⟩, ⟨by (with_reducible repeat (first | refine blk_drewN ?_ _ | refine blk_drew ?_ | refine blk_alloc ?_ _)); exact BK236.out⟩, ⟨by (with_reducible repeat (first | refine blk_drewN ?_ _ | refine blk_drew ?_ | refine blk_alloc ?_ _)); exact BK237.out⟩, ⟨by repeat (first | (with_reducible first | exact HB.out | apply below_alloc | apply pw_below_drewN | apply below_drew1 | refine below_set ?_ GE236.out | refine below_set ?_ GE237.out) | exact HB.out)⟩⟩
              · rw [if_neg c14] at H
                have c14b0 : ((rd l0_0 x21_1) == (rd l1_0 x21_1)) = false := beq_eq_false_iff_ne.mpr c14
                have c14b1 : ((rd l0_0 x21_1) != (rd l1_0 x21_1)) = true := bne_iff_ne.mpr c14
                have H' := Aside0.mk H
                clear H
                have hnb18 := NB236_237.out
                have hnc18 := NB237_236.out
                have hcz19_0 : wr.cell? ⟨gb236, 0, none⟩ = some (.slice A0_0 l0_0.length c0_0) := (blk_cell BK236.out 0).trans rfl
                have hfz19_0 := blk_frozen BK236.out 0
                have p238 : 0 ≤ (x21_1 : Int) := of_decide_eq_true (by first | (with_reducible assumption) | assumption)
                have q238 : x21_1 < (l0_0.length : Int) := of_decide_eq_true (by first | (with_reducible assumption) | assumption)
                obtain ⟨ad238, e238, hx238_0⟩ := Kd.at_int HR0_0.out x21_1 p238 q238
                cases e238
                replace hx238_0 := (HB.out.cell (World.block_lt_of_cell? w _ hx238_0)).trans hx238_0
                replace p238 := eq_true p238
                replace q238 := eq_true q238
                have hcz20_0 : wr.cell? ⟨gb237, 0, none⟩ = some (.slice A1_0 l1_0.length c1_0) := (blk_cell BK237.out 0).trans rfl
                have hfz20_0 := blk_frozen BK237.out 0
                have p239 : 0 ≤ (x21_1 : Int) := of_decide_eq_true (by first | (with_reducible assumption) | assumption)
                have q239 : x21_1 < (l1_0.length : Int) := of_decide_eq_true (by first | (with_reducible assumption) | assumption)
                obtain ⟨ad239, e239, hx239_0⟩ := Kd.at_int HR1_0.out x21_1 p239 q239
                cases e239
                replace hx239_0 := (HB.out.cell (World.block_lt_of_cell? w _ hx239_0)).trans hx239_0
                replace p239 := eq_true p239
                replace q239 := eq_true q239
                go_wp2
                repeat (go_quiet (fail); try go_wp2)
                go_roundg k1
                case measure => have := HK1.out; omega
                case rel => exact ⟨(x5_1), (wrap64 (x21_1 + 1)), (by first | rfl | (simp; done) | (simp [*]; done)), (by first | rfl | (simp; done) | (simp [*]; done)), H', ⟨by have := HK1.out; omega⟩, ⟨by (with_reducible repeat (first | refine blk_drewN ?_ _ | refine blk_drew ?_ | refine blk_alloc ?_ _)); exact BK236.out⟩, ⟨by (with_reducible repeat (first | refine blk_drewN ?_ _ | refine blk_drew ?_ | refine blk_alloc ?_ _)); exact BK237.out⟩, ⟨by repeat (first | (with_reducible first | exact HB.out | apply below_alloc | apply pw_below_drewN | apply below_drew1 | refine below_set ?_ GE236.out | refine below_set ?_ GE237.out) | exact HB.out)⟩⟩
            · rw [if_neg c13] at H
              exact absurd H (by simp)
          · rw [if_neg c12] at H
            exact absurd H (by simp)
        · rw [if_neg c11] at H
          exact absurd H (by simp)
      · rw [if_neg c10] at H
        have c10b0 : decide (x21_1 < ji4) = false := decide_eq_false c10
        clear c10
        obtain rfl := Option.some.inj H
        go_wp2
        repeat (go_quiet (fail); try go_wp2)
        go_ret
        exact ⟨by first | rfl | (simp [errW_none, errW_some] <;> rfl) | (simp only [← hji3, ← hji4]; first | rfl | (simp [errW_none, errW_some] <;> rfl)) | (simp [*, errW_none, errW_some] <;> rfl), by repeat (first | (with_reducible first | exact HB.out | apply below_alloc | apply pw_below_drewN | apply below_drew1 | refine below_set ?_ GE236.out | refine below_set ?_ GE237.out) | exact HB.out)⟩


/-! ### impl_RuleName: function 49 (by hand) -/
def impl_RuleName.f (a0 : Int) : Option (ByteArray) := (impl_inside.f a0 1 4).bind fun t => (if t = true then (some (rdOf ByteArray.empty [(⟨#[]⟩ : ByteArray), (⟨#[120, 121]⟩ : ByteArray), (⟨#[121, 120]⟩ : ByteArray), (⟨#[119, 101, 115, 116]⟩ : ByteArray), (⟨#[109, 105, 120, 101, 100]⟩ : ByteArray)] a0)) else (some (⟨#[]⟩ : ByteArray)))
set_option maxHeartbeats 8000000 in
set_option maxRecDepth 100000 in
theorem impl_RuleName.at1 (w : World) : Calls Try.prog 49 #[.int .i64 1] w fun e w' => e = .returned (.string (⟨#[120, 121]⟩ : ByteArray)) ∧ Drawn0 w w' := by
  have i0 : ∀ w, (Instr.index 117 (.agg #[.string (⟨#[]⟩ : ByteArray), .string (⟨#[120, 121]⟩ : ByteArray), .string (⟨#[121, 120]⟩ : ByteArray), .string (⟨#[119, 101, 115, 116]⟩ : ByteArray), .string (⟨#[109, 105, 120, 101, 100]⟩ : ByteArray)]) (.int .i64 1)).run Try.prog w = .ok (.string (⟨#[120, 121]⟩ : ByteArray)) w := fun _ => by kernel_rfl
  go_enter Try.func49, Try.ntmps49
  go_wp2_with (go_at_call 98; refine (impl_inside.calls 1 1 4 true _ (by decide)).mono ?_; rintro e w' ⟨rfl, hd⟩; obtain ⟨m, rfl⟩ := hd)
  go_ret
  exact ⟨rfl, by repeat (first | exact Drawn0.refl _ | apply Drawn0.step)⟩
set_option maxHeartbeats 8000000 in
set_option maxRecDepth 100000 in
theorem impl_RuleName.at2 (w : World) : Calls Try.prog 49 #[.int .i64 2] w fun e w' => e = .returned (.string (⟨#[121, 120]⟩ : ByteArray)) ∧ Drawn0 w w' := by
  have i0 : ∀ w, (Instr.index 117 (.agg #[.string (⟨#[]⟩ : ByteArray), .string (⟨#[120, 121]⟩ : ByteArray), .string (⟨#[121, 120]⟩ : ByteArray), .string (⟨#[119, 101, 115, 116]⟩ : ByteArray), .string (⟨#[109, 105, 120, 101, 100]⟩ : ByteArray)]) (.int .i64 2)).run Try.prog w = .ok (.string (⟨#[121, 120]⟩ : ByteArray)) w := fun _ => by kernel_rfl
  go_enter Try.func49, Try.ntmps49
  go_wp2_with (go_at_call 98; refine (impl_inside.calls 2 1 4 true _ (by decide)).mono ?_; rintro e w' ⟨rfl, hd⟩; obtain ⟨m, rfl⟩ := hd)
  go_ret
  exact ⟨rfl, by repeat (first | exact Drawn0.refl _ | apply Drawn0.step)⟩
set_option maxHeartbeats 8000000 in
set_option maxRecDepth 100000 in
theorem impl_RuleName.at3 (w : World) : Calls Try.prog 49 #[.int .i64 3] w fun e w' => e = .returned (.string (⟨#[119, 101, 115, 116]⟩ : ByteArray)) ∧ Drawn0 w w' := by
  have i0 : ∀ w, (Instr.index 117 (.agg #[.string (⟨#[]⟩ : ByteArray), .string (⟨#[120, 121]⟩ : ByteArray), .string (⟨#[121, 120]⟩ : ByteArray), .string (⟨#[119, 101, 115, 116]⟩ : ByteArray), .string (⟨#[109, 105, 120, 101, 100]⟩ : ByteArray)]) (.int .i64 3)).run Try.prog w = .ok (.string (⟨#[119, 101, 115, 116]⟩ : ByteArray)) w := fun _ => by kernel_rfl
  go_enter Try.func49, Try.ntmps49
  go_wp2_with (go_at_call 98; refine (impl_inside.calls 3 1 4 true _ (by decide)).mono ?_; rintro e w' ⟨rfl, hd⟩; obtain ⟨m, rfl⟩ := hd)
  go_ret
  exact ⟨rfl, by repeat (first | exact Drawn0.refl _ | apply Drawn0.step)⟩
set_option maxHeartbeats 8000000 in
set_option maxRecDepth 100000 in
theorem impl_RuleName.at4 (w : World) : Calls Try.prog 49 #[.int .i64 4] w fun e w' => e = .returned (.string (⟨#[109, 105, 120, 101, 100]⟩ : ByteArray)) ∧ Drawn0 w w' := by
  have i0 : ∀ w, (Instr.index 117 (.agg #[.string (⟨#[]⟩ : ByteArray), .string (⟨#[120, 121]⟩ : ByteArray), .string (⟨#[121, 120]⟩ : ByteArray), .string (⟨#[119, 101, 115, 116]⟩ : ByteArray), .string (⟨#[109, 105, 120, 101, 100]⟩ : ByteArray)]) (.int .i64 4)).run Try.prog w = .ok (.string (⟨#[109, 105, 120, 101, 100]⟩ : ByteArray)) w := fun _ => by kernel_rfl
  go_enter Try.func49, Try.ntmps49
  go_wp2_with (go_at_call 98; refine (impl_inside.calls 4 1 4 true _ (by decide)).mono ?_; rintro e w' ⟨rfl, hd⟩; obtain ⟨m, rfl⟩ := hd)
  go_ret
  exact ⟨rfl, by repeat (first | exact Drawn0.refl _ | apply Drawn0.step)⟩
set_option maxHeartbeats 8000000 in
set_option maxRecDepth 100000 in
theorem impl_RuleName.out (a0 : Int) (w : World) (hin : impl_inside.f a0 1 4 = some false) : Calls Try.prog 49 #[.int .i64 a0] w fun e w' => e = .returned (.string ⟨#[]⟩) ∧ Drawn0 w w' := by
  have HIN := Aside0.mk hin
  clear hin
  go_enter Try.func49, Try.ntmps49
  go_wp2_with (go_at_call 98; refine (impl_inside.calls _ _ _ false _ HIN.out).mono ?_; rintro e w' ⟨rfl, hd⟩; obtain ⟨m, rfl⟩ := hd)
  go_ret
  exact ⟨rfl, by repeat (first | exact Drawn0.refl _ | apply Drawn0.step)⟩
theorem impl_RuleName.calls (a0 : Int) (r : ByteArray) (w : World) (h : impl_RuleName.f a0 = some r) :
    Calls Try.prog 49 #[.int .i64 a0] w fun e w' => e = .returned (.string r) ∧ Drawn0 w w' := by
  by_cases hr : 1 ≤ a0 ∧ a0 ≤ 4
  · have hi : impl_inside.f a0 1 4 = some true := by unfold impl_inside.f; rw [if_pos hr.1]; simp [hr.2]
    unfold impl_RuleName.f at h
    rw [hi] at h
    simp only [Option.bind_some, if_true] at h
    have ha : a0 = 1 ∨ a0 = 2 ∨ a0 = 3 ∨ a0 = 4 := by omega
    rcases ha with rfl | rfl | rfl | rfl
    · obtain rfl := Option.some.inj h
      exact impl_RuleName.at1 w
    · obtain rfl := Option.some.inj h
      exact impl_RuleName.at2 w
    · obtain rfl := Option.some.inj h
      exact impl_RuleName.at3 w
    · obtain rfl := Option.some.inj h
      exact impl_RuleName.at4 w
  · have hi : impl_inside.f a0 1 4 = some false := by
      unfold impl_inside.f
      by_cases h0 : 1 ≤ a0
      · rw [if_pos h0]; simp; omega
      · rw [if_neg h0]
    unfold impl_RuleName.f at h
    rw [hi] at h
    obtain rfl := Option.some.inj h
    exact impl_RuleName.out a0 w hi



end Go.Proofs.Ytmfkgnfjjfnfmaa.XG
