/- What is proved: contracts of functions of the program (each: where its Lean function answers, the call returns that answer); written by a program of this session. -/
import Derived.Test.YtiehmmannfambaaX0
import Derived.Test.YtiehmmannfambaaX1
import Derived.Test.YtiehmmannfambaaX3
import Derived.Test.YtiehmmannfambaaX7
import Derived.Test.YtiehmmannfambaaX10
import Derived.Test.YtiehmmannfambaaX11
import Derived.Test.YtiehmmannfambaaX12
import Derived.Test.YtiehmmannfambaaX16
namespace Go.Proofs.Ytiehmmannfambaa.X
open Go.RowKit Go.Proofs.YtiehmmannfambaaW.PrintWords Go.Proofs.YtiehmmannfambaaW.PrintLast Go.Proofs.YtiehmmannfambaaW.PrintMore
attribute [local go_sem] max2_int min2_int max_two min_two max_three min_three max_four min_four   -- for this text's walks alone
set_option linter.unusedVariables false
set_option linter.unusedSimpArgs false

/-! ### impl_Distance: function 24 -/
def impl_Distance.j0 : Nat → Int → Int → Bool → Int → Int → Option (Int)
  | 0, _, _, _, _, _ => none
  | k + 1, x1, x2, x16, x387000, x387001 => if x16 = true then (some (-1)) else (if x387000 = 0 then (none) else ((impl_gap.f (Int.tmod x1 x387000) (Int.tmod x2 x387000)).bind fun t389 => ((impl_gap.f (wrap64 (Int.tdiv x1 x387000)) (wrap64 (Int.tdiv x2 x387000))).bind fun t390 => (some (wrap64 (t389 + t390))))))
def impl_Distance.f (k : Nat) (a0_0 : Int) (a0_1 : Int) (a1 : Int) (a2 : Int) : Option (Int) := (impl_isNode.f a0_0 a0_1 a1).bind fun t387 => (if t387 = true then ((impl_isNode.f a0_0 a0_1 a2).bind fun t388 => (impl_Distance.j0 k a1 a2 (!t388) a0_0 a0_1)) else (impl_Distance.j0 k a1 a2 true a0_0 a0_1))
theorem impl_Distance.mono_l : ∀ k, (∀ y0 y1 y2 y3 y4, LeO (impl_Distance.j0 k y0 y1 y2 y3 y4) (impl_Distance.j0 (k + 1) y0 y1 y2 y3 y4))
  | 0 => fun _ _ _ _ _ r h => by simp [impl_Distance.j0] at h
  | k + 1 => by
    have ih0 := impl_Distance.mono_l k
    · intro y0 y1 y2 y3 y4
      unfold impl_Distance.j0
      repeat' first
      | (with_reducible exact ih0 _ _ _ _ _)
      | (with_reducible exact LeO.refl _)
      | (with_reducible exact LeO.none _)
      | (with_reducible refine LeO.ite ?_ ?_)
      | (with_reducible refine LeO.bind ?_ (fun _ => ?_))
      | exact ih0 _ _ _ _ _
      | exact LeO.none _
      | refine LeO.ite ?_ ?_
      | refine LeO.bind ?_ (fun _ => ?_)
theorem impl_Distance.mono : ∀ a0 a1 a2 a3 k, LeO (impl_Distance.f k a0 a1 a2 a3) (impl_Distance.f (k + 1) a0 a1 a2 a3) := by
  intro a0 a1 a2 a3 k
  have ih0 := impl_Distance.mono_l k
  unfold impl_Distance.f
  repeat' first
      | (with_reducible exact ih0 _ _ _ _ _)
      | (with_reducible exact LeO.refl _)
      | (with_reducible exact LeO.none _)
      | (with_reducible refine LeO.ite ?_ ?_)
      | (with_reducible refine LeO.bind ?_ (fun _ => ?_))
      | exact ih0 _ _ _ _ _
      | exact LeO.none _
      | refine LeO.ite ?_ ?_
      | refine LeO.bind ?_ (fun _ => ?_)
def impl_Distance.T3 : Bool × List (List Nat × List Nat) := (true, [([], []), ([], []), ([1], [1]), ([0, 2], [0, 2]), ([], []), ([], []), ([5], [5]), ([4, 6], [4, 6]), ([3, 7], [3, 7]), ([], []), ([], []), ([10], [10]), ([9, 11], [9, 11]), ([], []), ([], []), ([14], [14]), ([13, 15], [13, 15]), ([12, 16, 8], [12, 16]), ([8, 17], [8, 17]), ([18, 17, 0, 1, 2, 3, 4, 5, 6, 7, 8, 9, 10, 11, 12, 13, 14, 15, 16, 17, 18], [18])])
def impl_Distance.B3 : List Nat := [0, 0, 2, 7, 0, 0, 32, 112, 255, 0, 0, 1024, 3584, 0, 0, 16384, 57344, 131071, 262143, 524287]
theorem impl_Distance.tab3 : rtab .any (opsOf Try.f24 3) = impl_Distance.T3 := by kernel_rfl
theorem impl_Distance.bits3 : waitsOk impl_Distance.T3.2 impl_Distance.B3 = true := by kernel_rfl
set_option maxHeartbeats 8000000 in
set_option maxRecDepth 100000 in
theorem impl_Distance.calls (k : Nat) (a0_0 : Int) (a0_1 : Int) (a1 : Int) (a2 : Int) (r : Int) (w : World) (h : impl_Distance.f k a0_0 a0_1 a1 a2 = some r) :
    Calls Try.prog 24 #[.agg #[.int .i64 a0_0, .int .i64 a0_1], .int .i64 a1, .int .i64 a2] w fun e w' => e = .returned (.int .i64 r) ∧ Below w.heap.size w w' := by
  have hu29 := Try.underlying29
  have HB := Aside0.mk (Below.refl w.heap.size w)
  have H : ((impl_isNode.f a0_0 a0_1 a1).bind fun t387 => (if t387 = true then ((impl_isNode.f a0_0 a0_1 a2).bind fun t388 => (impl_Distance.j0 k a1 a2 (!t388) a0_0 a0_1)) else (impl_Distance.j0 k a1 a2 true a0_0 a0_1))) = some r := h
  clear h
  have HC4 := Aside0.mk H
  clear H
  go_enter Try.func24, Try.ntmps24
  go_upto_region 1 with (first | ((with_reducible refine gate_dst (N := 3) rfl ?_); refine box_event ?hg (N := 3) ?hd (cs := #[.int .i64 a0_0, .int .i64 a0_1]) (t := 29) ?hr ?_; (case hd => rfl); (case hg => rfl); (case hr => first | (go_simp; done) | (go_simp; rfl)); intro gb386 hg w5 hbox hb; have n0_ := Aside0.mk (below_step (by repeat (first | (with_reducible first | exact HB.out | apply below_alloc | apply pw_below_drewN | apply below_drew1) | exact HB.out)) hb); have n1_ := Aside0.mk (hbox); have n2_ := Aside0.mk ((by rw [hg]; exact (below_size (by repeat (first | (with_reducible first | exact HB.out | apply below_alloc | apply pw_below_drewN | apply below_drew1) | exact HB.out))) : w.heap.size ≤ gb386)); have n3_ := Aside0.mk ((by rw [hg]; exact (below_size (by repeat (first | (with_reducible first | exact HB.out | apply below_alloc | apply pw_below_drewN | apply below_drew1) | exact HB.out))) : w.heap.size ≤ gb386)); clear HB; have HB := n0_; have BK386 := n1_; have GW386 := n2_; have GE386 := n3_; clear n0_ n1_ n2_ n3_; clear hb hbox hg))
  (try simp only [Act.put, List.setIfInBounds_toArray, List.set_cons_zero, List.set_cons_succ])
  go_cut [16] (fun v16 wc => ∃ (kq : Nat) (x16_3 : Bool), v16 = .bool x16_3 ∧ Aside0 (impl_Distance.j0 kq a1 a2 x16_3 a0_0 a0_1 = some r) ∧ Aside0 (kq ≤ k) ∧ Aside0 (wc.heap[gb386]? = some (.cells #[.int .i64 a0_0, .int .i64 a0_1] 29 (0, 0))) ∧ Aside0 (Below w.heap.size w wc))
  case first =>
    have H := HC4.out
    clear HC4
    replace H := Option.bind_eq_some_iff.mp H
    obtain ⟨t387, A60, H⟩ := H
    replace H : (if t387 = true then ((impl_isNode.f a0_0 a0_1 a2).bind fun t388 => (impl_Distance.j0 k a1 a2 (!t388) a0_0 a0_1)) else (impl_Distance.j0 k a1 a2 true a0_0 a0_1)) = some r := H
    have A6 := Aside0.mk A60
    clear A60
    by_cases c7 : t387 = true
    · subst c7
      have H1 : ((impl_isNode.f a0_0 a0_1 a2).bind fun t388 => (impl_Distance.j0 k a1 a2 (!t388) a0_0 a0_1)) = some r := by rw [if_pos rfl] at H; exact H
      clear H
      have H := H1
      clear H1
      replace H := Option.bind_eq_some_iff.mp H
      obtain ⟨t388, A80, H⟩ := H
      replace H : (impl_Distance.j0 k a1 a2 (!t388) a0_0 a0_1) = some r := H
      have A8 := Aside0.mk A80
      clear A80
      have H' := Aside0.mk H
      clear H
      have hcz9_0 : w5.cell? ⟨gb386, 0, none⟩ = some (.int .i64 a0_0) := (blk_cell BK386.out 0).trans rfl
      have hcz9_1 : w5.cell? ⟨gb386, 1, none⟩ = some (.int .i64 a0_1) := (blk_cell BK386.out 1).trans rfl
      have hfz9_0 := blk_frozen BK386.out 0
      have hfz9_1 := blk_frozen BK386.out 1
      go_wp2_with (first | ((with_reducible refine gate_callee (f := 49) rfl ?_); refine goesL_ (some 9) rfl rfl Try.func49 (by kernel_rfl) rfl #[.agg #[.int .i64 a0_0, .int .i64 a0_1], .int .i64 a1] rfl (by (try simp only [List.map_toArray, List.map_cons, List.map_nil]); first | done | rfl | (simp only [List.length_drop, List.length_take]; rfl)) ?_; (with_reducible refine (impl_isNode.calls a0_0 a0_1 a1 true _ A6.out).mono ?_); rintro e w10 ⟨rfl, hb⟩; refine ⟨_, rfl, ?_⟩; have n0_ := Aside0.mk (blk_below (g := gb386) (o := .cells #[.int .i64 a0_0, .int .i64 a0_1] 29 (0, 0)) (by (with_reducible repeat (first | refine blk_drewN ?_ _ | refine blk_drew ?_ | refine blk_alloc ?_ _)); exact BK386.out) hb); have n1_ := Aside0.mk (below_step (by repeat (first | (with_reducible first | exact HB.out | apply below_alloc | apply pw_below_drewN | apply below_drew1 | refine below_set ?_ GE386.out) | exact HB.out)) hb); clear BK386; clear HB; have BK386 := n0_; have HB := n1_; clear n0_ n1_; (try clear hb); (try clear hb2); (try clear hk); (try clear hi); have hcz11_0 : w10.cell? ⟨gb386, 0, none⟩ = some (.int .i64 a0_0) := (blk_cell BK386.out 0).trans rfl; have hcz11_1 : w10.cell? ⟨gb386, 1, none⟩ = some (.int .i64 a0_1) := (blk_cell BK386.out 1).trans rfl; have hfz11_0 := blk_frozen BK386.out 0; have hfz11_1 := blk_frozen BK386.out 1) | (go_at_call 49; (with_reducible refine (impl_isNode.calls a0_0 a0_1 a2 t388 _ A8.out).mono ?_); rintro e w12 ⟨rfl, hb⟩; have n0_ := Aside0.mk (blk_below (g := gb386) (o := .cells #[.int .i64 a0_0, .int .i64 a0_1] 29 (0, 0)) (by (with_reducible repeat (first | refine blk_drewN ?_ _ | refine blk_drew ?_ | refine blk_alloc ?_ _)); exact BK386.out) hb); have n1_ := Aside0.mk (below_step (by repeat (first | (with_reducible first | exact HB.out | apply below_alloc | apply pw_below_drewN | apply below_drew1 | refine below_set ?_ GE386.out) | exact HB.out)) hb); clear BK386; clear HB; have BK386 := n0_; have HB := n1_; clear n0_ n1_; (try clear hb); (try clear hb2); (try clear hk); (try clear hi)))
      go_meet
      case rel => exact ⟨_, (!t388), (by first | rfl | (simp; done) | (simp [*]; done)), H', ⟨by first | omega | exact Nat.le_refl _⟩, ⟨by (with_reducible repeat (first | refine blk_drewN ?_ _ | refine blk_drew ?_ | refine blk_alloc ?_ _)); exact BK386.out⟩, ⟨by repeat (first | (with_reducible first | exact HB.out | apply below_alloc | apply pw_below_drewN | apply below_drew1 | refine below_set ?_ GE386.out) | exact HB.out)⟩⟩
    · replace c7 := Bool.eq_false_iff.mpr c7
      subst c7
      have H1 : (impl_Distance.j0 k a1 a2 true a0_0 a0_1) = some r := by rw [if_neg (show ¬ (false = true) by decide)] at H; exact H
      clear H
      have H := H1
      clear H1
      have H' := Aside0.mk H
      clear H
      have hcz13_0 : w5.cell? ⟨gb386, 0, none⟩ = some (.int .i64 a0_0) := (blk_cell BK386.out 0).trans rfl
      have hcz13_1 : w5.cell? ⟨gb386, 1, none⟩ = some (.int .i64 a0_1) := (blk_cell BK386.out 1).trans rfl
      have hfz13_0 := blk_frozen BK386.out 0
      have hfz13_1 := blk_frozen BK386.out 1
      go_wp2_with (first | ((with_reducible refine gate_callee (f := 49) rfl ?_); refine goesL_ (some 9) rfl rfl Try.func49 (by kernel_rfl) rfl #[.agg #[.int .i64 a0_0, .int .i64 a0_1], .int .i64 a1] rfl (by (try simp only [List.map_toArray, List.map_cons, List.map_nil]); first | done | rfl | (simp only [List.length_drop, List.length_take]; rfl)) ?_; (with_reducible refine (impl_isNode.calls a0_0 a0_1 a1 false _ A6.out).mono ?_); rintro e w14 ⟨rfl, hb⟩; refine ⟨_, rfl, ?_⟩; have n0_ := Aside0.mk (blk_below (g := gb386) (o := .cells #[.int .i64 a0_0, .int .i64 a0_1] 29 (0, 0)) (by (with_reducible repeat (first | refine blk_drewN ?_ _ | refine blk_drew ?_ | refine blk_alloc ?_ _)); exact BK386.out) hb); have n1_ := Aside0.mk (below_step (by repeat (first | (with_reducible first | exact HB.out | apply below_alloc | apply pw_below_drewN | apply below_drew1 | refine below_set ?_ GE386.out) | exact HB.out)) hb); clear BK386; clear HB; have BK386 := n0_; have HB := n1_; clear n0_ n1_; (try clear hb); (try clear hb2); (try clear hk); (try clear hi)))
      go_meet
      case rel => exact ⟨_, (true), (by first | rfl | (simp; done) | (simp [*]; done)), H', ⟨by first | omega | exact Nat.le_refl _⟩, ⟨by (with_reducible repeat (first | refine blk_drewN ?_ _ | refine blk_drew ?_ | refine blk_alloc ?_ _)); exact BK386.out⟩, ⟨by repeat (first | (with_reducible first | exact HB.out | apply below_alloc | apply pw_below_drewN | apply below_drew1 | refine below_set ?_ GE386.out) | exact HB.out)⟩⟩
  case rest =>
    clear HC4
    try clear c2
    try clear p2
    try clear c4
    try clear c7
    try clear hcz11_0
    try clear hcz11_1
    try clear hcz13_0
    try clear hcz13_1
    try clear hcz9_0
    try clear hcz9_1
    try clear hfz11_0
    try clear hfz11_1
    try clear hfz13_0
    try clear hfz13_1
    try clear hfz9_0
    try clear hfz9_1
    obtain ⟨kq, x16_3, rfl, HA, HJ3, BK386, HB⟩ := hcut
    cases kq with
    | zero => exact absurd HA.out (by simp [impl_Distance.j0])
    | succ kj3 =>
      have H := HA.out
      clear HA
      simp only [impl_Distance.j0] at H
      by_cases c15 : x16_3 = true
      · subst c15
        have H1 : (some (-1)) = some r := by rw [if_pos rfl] at H; exact H
        clear H
        have H := H1
        clear H1
        obtain rfl := Option.some.inj H
        go_wp2
        go_ret
        exact ⟨by first | rfl | (simp [errW_none, errW_some] <;> rfl) | (simp [*, errW_none, errW_some] <;> rfl), by repeat (first | (with_reducible first | exact HB.out | apply below_alloc | apply pw_below_drewN | apply below_drew1 | refine below_set ?_ GE386.out) | exact HB.out)⟩
      · replace c15 := Bool.eq_false_iff.mpr c15
        subst c15
        have H1 : (if a0_0 = 0 then (none) else ((impl_gap.f (Int.tmod a1 a0_0) (Int.tmod a2 a0_0)).bind fun t389 => ((impl_gap.f (wrap64 (Int.tdiv a1 a0_0)) (wrap64 (Int.tdiv a2 a0_0))).bind fun t390 => (some (wrap64 (t389 + t390)))))) = some r := by rw [if_neg (show ¬ (false = true) by decide)] at H; exact H
        clear H
        have H := H1
        clear H1
        by_cases c16 : a0_0 = 0
        · rw [if_pos c16] at H
          exact absurd H (by simp)
        · rw [if_neg c16] at H
          have c16b0 : (a0_0 == 0) = false := beq_eq_false_iff_ne.mpr c16
          have c16b1 : (a0_0 != 0) = true := bne_iff_ne.mpr c16
          replace H := Option.bind_eq_some_iff.mp H
          obtain ⟨t389, A170, H⟩ := H
          replace H : ((impl_gap.f (wrap64 (Int.tdiv a1 a0_0)) (wrap64 (Int.tdiv a2 a0_0))).bind fun t390 => (some (wrap64 (t389 + t390)))) = some r := H
          have A17 := Aside0.mk A170
          clear A170
          replace H := Option.bind_eq_some_iff.mp H
          obtain ⟨t390, A180, H⟩ := H
          replace H : (some (wrap64 (t389 + t390))) = some r := H
          have A18 := Aside0.mk A180
          clear A180
          obtain rfl := Option.some.inj H
          try go_wp2
          have n0_ := Aside0.mk (blk_drew BK386.out)
          have n1_ := Aside0.mk (below_drew1 HB.out)
          clear BK386
          clear HB
          have BK386 := n0_
          have HB := n1_
          clear n0_ n1_
          refine start_ (n := 20) (S := fun w' => w'.cell? ⟨gb386, 0, none⟩ = some (.int .i64 a0_0) ∧ w'.cell? ⟨gb386, 1, none⟩ = some (.int .i64 a0_1)) (ds := []) #[false, false, false, false, false, false, false, false, false, false, false, false, false, false, false, false, false, false, false, false] (by kernel_rfl) rfl rfl ⟨(blk_cell BK386.out 0).trans rfl, (blk_cell BK386.out 1).trans rfl⟩ (fun hHeld => ?_); refine with_tabW impl_Distance.tab3 impl_Distance.bits3 (fun HT_ HW_ => ?_)
          generalize wc.drew = w19 at BK386 HB hHeld ⊢
          refine pure_ (i := 0) (N := some 17) (v := ?_) (a' := ?_) #[true, false, false, false, false, false, false, false, false, false, false, false, false, false, false, false, false, false, false, false] rfl rfl (any_of HT_.out (by kernel_rfl)) (fun _ _ _ h => h) (Or.inl ⟨by rfl, ?_⟩) ?_ ?_
          rotate_left
          · intro w'
            go_simp
            with_reducible rfl
          rotate_left
          · simp only [Act.put, List.setIfInBounds_toArray, List.set_cons_zero, List.set_cons_succ, i64_w, i32_w]
            rfl
          refine pure_ (i := 1) (N := some 18) (v := ?_) (a' := ?_) #[true, true, false, false, false, false, false, false, false, false, false, false, false, false, false, false, false, false, false, false] rfl rfl (any_of HT_.out (by kernel_rfl)) (fun _ _ _ h => h) (Or.inl ⟨by rfl, ?_⟩) ?_ ?_
          rotate_left
          · intro w'
            go_simp
            with_reducible rfl
          rotate_left
          · simp only [Act.put, List.setIfInBounds_toArray, List.set_cons_zero, List.set_cons_succ, i64_w, i32_w]
            rfl
          refine pure_ (i := 4) (N := some 21) (v := ?_) (a' := ?_) #[true, true, false, false, true, false, false, false, false, false, false, false, false, false, false, false, false, false, false, false] rfl rfl (any_of HT_.out (by kernel_rfl)) (fun _ _ _ h => h) (Or.inl ⟨by rfl, ?_⟩) ?_ ?_
          rotate_left
          · intro w'
            go_simp
            with_reducible rfl
          rotate_left
          · simp only [Act.put, List.setIfInBounds_toArray, List.set_cons_zero, List.set_cons_succ, i64_w, i32_w]
            rfl
          refine pure_ (i := 5) (N := some 22) (v := ?_) (a' := ?_) #[true, true, false, false, true, true, false, false, false, false, false, false, false, false, false, false, false, false, false, false] rfl rfl (any_of HT_.out (by kernel_rfl)) (fun _ _ _ h => h) (Or.inl ⟨by rfl, ?_⟩) ?_ ?_
          rotate_left
          · intro w'
            go_simp
            with_reducible rfl
          rotate_left
          · simp only [Act.put, List.setIfInBounds_toArray, List.set_cons_zero, List.set_cons_succ, i64_w, i32_w]
            rfl
          refine pure_ (i := 9) (N := some 26) (v := ?_) (a' := ?_) #[true, true, false, false, true, true, false, false, false, true, false, false, false, false, false, false, false, false, false, false] rfl rfl (any_of HT_.out (by kernel_rfl)) (fun _ _ _ h => h) (Or.inl ⟨by rfl, ?_⟩) ?_ ?_
          rotate_left
          · intro w'
            go_simp
            with_reducible rfl
          rotate_left
          · simp only [Act.put, List.setIfInBounds_toArray, List.set_cons_zero, List.set_cons_succ, i64_w, i32_w]
            rfl
          refine pure_ (i := 10) (N := some 27) (v := ?_) (a' := ?_) #[true, true, false, false, true, true, false, false, false, true, true, false, false, false, false, false, false, false, false, false] rfl rfl (any_of HT_.out (by kernel_rfl)) (fun _ _ _ h => h) (Or.inl ⟨by rfl, ?_⟩) ?_ ?_
          rotate_left
          · intro w'
            go_simp
            with_reducible rfl
          rotate_left
          · simp only [Act.put, List.setIfInBounds_toArray, List.set_cons_zero, List.set_cons_succ, i64_w, i32_w]
            rfl
          refine pure_ (i := 13) (N := some 30) (v := ?_) (a' := ?_) #[true, true, false, false, true, true, false, false, false, true, true, false, false, true, false, false, false, false, false, false] rfl rfl (any_of HT_.out (by kernel_rfl)) (fun _ _ _ h => h) (Or.inl ⟨by rfl, ?_⟩) ?_ ?_
          rotate_left
          · intro w'
            go_simp
            with_reducible rfl
          rotate_left
          · simp only [Act.put, List.setIfInBounds_toArray, List.set_cons_zero, List.set_cons_succ, i64_w, i32_w]
            rfl
          refine pure_ (i := 14) (N := some 31) (v := ?_) (a' := ?_) #[true, true, false, false, true, true, false, false, false, true, true, false, false, true, true, false, false, false, false, false] rfl rfl (any_of HT_.out (by kernel_rfl)) (fun _ _ _ h => h) (Or.inl ⟨by rfl, ?_⟩) ?_ ?_
          rotate_left
          · intro w'
            go_simp
            with_reducible rfl
          rotate_left
          · simp only [Act.put, List.setIfInBounds_toArray, List.set_cons_zero, List.set_cons_succ, i64_w, i32_w]
            rfl
          refine take_ (i := 2) (N := some 19) (v := ?_) (a' := ?_) #[true, true, true, false, true, true, false, false, false, true, true, false, false, true, true, false, false, false, false, false] rfl rfl (take_ofW HT_.out HW_.out (by kernel_rfl)) (fun _ _ _ h => h) (Or.inl ⟨by rfl, ?_⟩) hHeld ?_ ?_
          rotate_left
          · rintro w' ⟨s0, s1⟩
            go_simp
            with_reducible rfl
          rotate_left
          · simp only [Act.put, List.setIfInBounds_toArray, List.set_cons_zero, List.set_cons_succ, i64_w, i32_w]
            rfl
          refine pure_ (i := 3) (N := some 20) (v := ?_) (a' := ?_) #[true, true, true, true, true, true, false, false, false, true, true, false, false, true, true, false, false, false, false, false] rfl rfl (any_of HT_.out (by kernel_rfl)) (fun _ _ _ h => h) (Or.inl ⟨by rfl, ?_⟩) ?_ ?_
          rotate_left
          · intro w'
            go_simp
            with_reducible rfl
          rotate_left
          · simp only [Act.put, List.setIfInBounds_toArray, List.set_cons_zero, List.set_cons_succ, i64_w, i32_w]
            rfl
          refine take_ (i := 6) (N := some 23) (v := ?_) (a' := ?_) #[true, true, true, true, true, true, true, false, false, true, true, false, false, true, true, false, false, false, false, false] rfl rfl (take_ofW HT_.out HW_.out (by kernel_rfl)) (fun _ _ _ h => h) (Or.inl ⟨by rfl, ?_⟩) hHeld ?_ ?_
          rotate_left
          · rintro w' ⟨s0, s1⟩
            go_simp
            with_reducible rfl
          rotate_left
          · simp only [Act.put, List.setIfInBounds_toArray, List.set_cons_zero, List.set_cons_succ, i64_w, i32_w]
            rfl
          refine pure_ (i := 7) (N := some 24) (v := ?_) (a' := ?_) #[true, true, true, true, true, true, true, true, false, true, true, false, false, true, true, false, false, false, false, false] rfl rfl (any_of HT_.out (by kernel_rfl)) (fun _ _ _ h => h) (Or.inl ⟨by rfl, ?_⟩) ?_ ?_
          rotate_left
          · intro w'
            go_simp
            with_reducible rfl
          rotate_left
          · simp only [Act.put, List.setIfInBounds_toArray, List.set_cons_zero, List.set_cons_succ, i64_w, i32_w]
            rfl
          refine take_ (i := 11) (N := some 28) (v := ?_) (a' := ?_) #[true, true, true, true, true, true, true, true, false, true, true, true, false, true, true, false, false, false, false, false] rfl rfl (take_ofW HT_.out HW_.out (by kernel_rfl)) (fun _ _ _ h => h) (Or.inl ⟨by rfl, ?_⟩) hHeld ?_ ?_
          rotate_left
          · rintro w' ⟨s0, s1⟩
            go_simp
            with_reducible rfl
          rotate_left
          · simp only [Act.put, List.setIfInBounds_toArray, List.set_cons_zero, List.set_cons_succ, i64_w, i32_w]
            rfl
          refine pure_ (i := 12) (N := some 29) (v := ?_) (a' := ?_) #[true, true, true, true, true, true, true, true, false, true, true, true, true, true, true, false, false, false, false, false] rfl rfl (any_of HT_.out (by kernel_rfl)) (fun _ _ _ h => h) (Or.inl ⟨by rfl, ?_⟩) ?_ ?_
          rotate_left
          · intro w'
            go_simp
            with_reducible rfl
          rotate_left
          · simp only [Act.put, List.setIfInBounds_toArray, List.set_cons_zero, List.set_cons_succ, i64_w, i32_w]
            rfl
          refine take_ (i := 15) (N := some 32) (v := ?_) (a' := ?_) #[true, true, true, true, true, true, true, true, false, true, true, true, true, true, true, true, false, false, false, false] rfl rfl (take_ofW HT_.out HW_.out (by kernel_rfl)) (fun _ _ _ h => h) (Or.inl ⟨by rfl, ?_⟩) hHeld ?_ ?_
          rotate_left
          · rintro w' ⟨s0, s1⟩
            go_simp
            with_reducible rfl
          rotate_left
          · simp only [Act.put, List.setIfInBounds_toArray, List.set_cons_zero, List.set_cons_succ, i64_w, i32_w]
            rfl
          refine pure_ (i := 16) (N := some 33) (v := ?_) (a' := ?_) #[true, true, true, true, true, true, true, true, false, true, true, true, true, true, true, true, true, false, false, false] rfl rfl (any_of HT_.out (by kernel_rfl)) (fun _ _ _ h => h) (Or.inl ⟨by rfl, ?_⟩) ?_ ?_
          rotate_left
          · intro w'
            go_simp
            with_reducible rfl
          rotate_left
          · simp only [Act.put, List.setIfInBounds_toArray, List.set_cons_zero, List.set_cons_succ, i64_w, i32_w]
            rfl
          refine one_ (i := 8) (N := some 25) #[true, true, true, true, true, true, true, true, true, true, true, true, true, true, true, true, true, false, false, false] rfl rfl (one_of HT_.out (by kernel_rfl)) (by decide) (fun K hK => ?_)
          refine goes_ Try.func54 (by kernel_rfl) rfl #[.int .i64 (Int.tmod a1 a0_0), .int .i64 (Int.tmod a2 a0_0)] (by rfl) rfl rfl (by (try simp only [List.map_toArray, List.map_cons, List.map_nil]); first | done | rfl | (simp only [List.length_drop, List.length_take]; rfl)) ?_
          with_reducible refine (impl_gap.calls (Int.tmod a1 a0_0) (Int.tmod a2 a0_0) t389 _ A17.out).mono ?_
          rintro e w20 ⟨rfl, hb⟩
          refine ⟨_, rfl, ?_⟩
          have n0_ := Aside0.mk (blk_below (g := gb386) (o := .cells #[.int .i64 a0_0, .int .i64 a0_1] 29 (0, 0)) (by (with_reducible repeat (first | refine blk_drewN ?_ _ | refine blk_drew ?_ | refine blk_alloc ?_ _)); exact BK386.out) hb)
          have n1_ := Aside0.mk (below_step (by repeat (first | (with_reducible first | exact HB.out | apply below_alloc | apply pw_below_drewN | apply below_drew1 | refine below_set ?_ GE386.out) | exact HB.out)) hb)
          clear BK386
          clear HB
          have BK386 := n0_
          have HB := n1_
          clear n0_ n1_
          (try clear hb)
          (try clear hb2)
          (try clear hk)
          (try clear hi)
          refine hK.out _ _ ⟨(blk_cell BK386.out 0).trans rfl, (blk_cell BK386.out 1).trans rfl⟩ (fun hHeld => ?_)
          clear hK K
          refine norm_ (a' := ?_) ?_ ?_
          rotate_left
          · show Act.put _ (some 25) _ = _
            simp only [Act.put, List.setIfInBounds_toArray, List.set_cons_zero, List.set_cons_succ, i64_w, i32_w]
            rfl
          refine one_ (i := 17) (N := some 34) #[true, true, true, true, true, true, true, true, true, true, true, true, true, true, true, true, true, true, false, false] rfl rfl (one_of HT_.out (by kernel_rfl)) (by decide) (fun K hK => ?_)
          refine goes_ Try.func54 (by kernel_rfl) rfl #[.int .i64 (wrap64 (Int.tdiv a1 a0_0)), .int .i64 (wrap64 (Int.tdiv a2 a0_0))] (by rfl) rfl rfl (by (try simp only [List.map_toArray, List.map_cons, List.map_nil]); first | done | rfl | (simp only [List.length_drop, List.length_take]; rfl)) ?_
          with_reducible refine (impl_gap.calls (wrap64 (Int.tdiv a1 a0_0)) (wrap64 (Int.tdiv a2 a0_0)) t390 _ A18.out).mono ?_
          rintro e w21 ⟨rfl, hb⟩
          refine ⟨_, rfl, ?_⟩
          have n0_ := Aside0.mk (blk_below (g := gb386) (o := .cells #[.int .i64 a0_0, .int .i64 a0_1] 29 (0, 0)) (by (with_reducible repeat (first | refine blk_drewN ?_ _ | refine blk_drew ?_ | refine blk_alloc ?_ _)); exact BK386.out) hb)
          have n1_ := Aside0.mk (below_step (by repeat (first | (with_reducible first | exact HB.out | apply below_alloc | apply pw_below_drewN | apply below_drew1 | refine below_set ?_ GE386.out) | exact HB.out)) hb)
          clear BK386
          clear HB
          have BK386 := n0_
          have HB := n1_
          clear n0_ n1_
          (try clear hb)
          (try clear hb2)
          (try clear hk)
          (try clear hi)
          refine hK.out _ _ ⟨(blk_cell BK386.out 0).trans rfl, (blk_cell BK386.out 1).trans rfl⟩ (fun hHeld => ?_)
          clear hK K
          refine norm_ (a' := ?_) ?_ ?_
          rotate_left
          · show Act.put _ (some 34) _ = _
            simp only [Act.put, List.setIfInBounds_toArray, List.set_cons_zero, List.set_cons_succ, i64_w, i32_w]
            rfl
          refine pure_ (i := 18) (N := some 35) (v := ?_) (a' := ?_) #[true, true, true, true, true, true, true, true, true, true, true, true, true, true, true, true, true, true, true, false] rfl rfl (any_of HT_.out (by kernel_rfl)) (fun _ _ _ h => h) (Or.inl ⟨by rfl, ?_⟩) ?_ ?_
          rotate_left
          · intro w'
            go_simp
            with_reducible rfl
          rotate_left
          · simp only [Act.put, List.setIfInBounds_toArray, List.set_cons_zero, List.set_cons_succ, i64_w, i32_w]
            rfl
          refine pure_ (i := 19) (N := some 6) (v := ?_) (a' := ?_) #[true, true, true, true, true, true, true, true, true, true, true, true, true, true, true, true, true, true, true, true] rfl rfl (any_of HT_.out (by kernel_rfl)) (fun _ _ _ h => h) (Or.inl ⟨by rfl, ?_⟩) ?_ ?_
          rotate_left
          · intro w'
            go_simp
            with_reducible rfl
          rotate_left
          · simp only [Act.put, List.setIfInBounds_toArray, List.set_cons_zero, List.set_cons_succ, i64_w, i32_w]
            rfl
          refine done_ (done_of HT_.out (by kernel_rfl)) ?_
          try go_wp2
          go_ret
          exact ⟨by first | rfl | (simp [errW_none, errW_some] <;> rfl) | (simp [*, errW_none, errW_some] <;> rfl), by repeat (first | (with_reducible first | exact HB.out | apply below_alloc | apply pw_below_drewN | apply below_drew1 | refine below_set ?_ GE386.out) | exact HB.out)⟩


/-! ### laws_FnTableWalks: function 4 -/
def laws_FnTableWalks.j0 : Nat → Int → Int → List Int → Bool → Int → Int → List Int → List Int → Option (Bool)
  | 0, _, _, _, _, _, _, _, _ => none
  | k + 1, x7, x8, x9, x96, x411000, x411001, x411002, x412000 => if x96 = true then (some false) else ((impl_IsRoute.f k x411000 x411001 x411002 x9).bind fun t427 => (if t427 = true then ((impl_IsLoopFree.f k x411000 x411001 x411002 x9).bind fun t428 => (if t428 = true then ((impl_PortAt.f k x411000 x411001 x411002 x412000 x7 x8).bind fun t429 => (if 0 < (x9.length : Int) then (some (t429 == (Int.tmod (rd x9 0) 4))) else (none))) else (some false))) else (some false)))
def laws_FnTableWalks.f (k : Nat) (l0 : List Int) : Option (Bool) := (laws_big.f l0).bind fun t401 => (if t401 = true then (some true) else ((spec_DrawTable.f k l0).bind fun bt402 => ((spec_DrawPlaces.f k l0).bind fun t412 => (if 0 < (t412.length : Int) then (if (wrap64 (bt402.1 * bt402.2.1)) = 0 then (none) else (if 1 < (t412.length : Int) then ((impl_WalkTable.f k bt402.1 bt402.2.1 bt402.2.2.1 bt402.2.2.2 (Int.tmod (rd t412 0) (wrap64 (bt402.1 * bt402.2.1))) (Int.tmod (rd t412 1) (wrap64 (bt402.1 * bt402.2.1)))).bind fun t417 => (if (Int.tmod (rd t412 0) (wrap64 (bt402.1 * bt402.2.1))) = (Int.tmod (rd t412 1) (wrap64 (bt402.1 * bt402.2.1))) then (if (t417.length : Int) = 0 then ((impl_PortAt.f k bt402.1 bt402.2.1 bt402.2.2.1 bt402.2.2.2 (Int.tmod (rd t412 0) (wrap64 (bt402.1 * bt402.2.1))) (Int.tmod (rd t412 0) (wrap64 (bt402.1 * bt402.2.1)))).bind fun t420 => (some (t420 == 4))) else (some false)) else ((impl_RouteNodes.f k bt402.1 bt402.2.1 bt402.2.2.1 t417).bind fun t421 => (if (t417.length : Int) = 0 then (laws_FnTableWalks.j0 k (Int.tmod (rd t412 0) (wrap64 (bt402.1 * bt402.2.1))) (Int.tmod (rd t412 1) (wrap64 (bt402.1 * bt402.2.1))) t417 true bt402.1 bt402.2.1 bt402.2.2.1 bt402.2.2.2) else (if (t421.length : Int) = (wrap64 ((t417.length : Int) + 1)) then (if 0 < (t421.length : Int) then (if (rd t421 0) = (Int.tmod (rd t412 0) (wrap64 (bt402.1 * bt402.2.1))) then (if 0 ≤ (wrap64 ((t421.length : Int) - 1)) then (if (wrap64 ((t421.length : Int) - 1)) < (t421.length : Int) then (if (rd t421 (wrap64 ((t421.length : Int) - 1))) = (Int.tmod (rd t412 1) (wrap64 (bt402.1 * bt402.2.1))) then ((impl_Distance.f k bt402.1 bt402.2.1 (Int.tmod (rd t412 0) (wrap64 (bt402.1 * bt402.2.1))) (Int.tmod (rd t412 1) (wrap64 (bt402.1 * bt402.2.1)))).bind fun t426 => (laws_FnTableWalks.j0 k (Int.tmod (rd t412 0) (wrap64 (bt402.1 * bt402.2.1))) (Int.tmod (rd t412 1) (wrap64 (bt402.1 * bt402.2.1))) t417 (decide ((t417.length : Int) < t426)) bt402.1 bt402.2.1 bt402.2.2.1 bt402.2.2.2)) else (laws_FnTableWalks.j0 k (Int.tmod (rd t412 0) (wrap64 (bt402.1 * bt402.2.1))) (Int.tmod (rd t412 1) (wrap64 (bt402.1 * bt402.2.1))) t417 true bt402.1 bt402.2.1 bt402.2.2.1 bt402.2.2.2)) else (none)) else (none)) else (laws_FnTableWalks.j0 k (Int.tmod (rd t412 0) (wrap64 (bt402.1 * bt402.2.1))) (Int.tmod (rd t412 1) (wrap64 (bt402.1 * bt402.2.1))) t417 true bt402.1 bt402.2.1 bt402.2.2.1 bt402.2.2.2)) else (none)) else (laws_FnTableWalks.j0 k (Int.tmod (rd t412 0) (wrap64 (bt402.1 * bt402.2.1))) (Int.tmod (rd t412 1) (wrap64 (bt402.1 * bt402.2.1))) t417 true bt402.1 bt402.2.1 bt402.2.2.1 bt402.2.2.2)))))) else (none))) else (none)))))
theorem laws_FnTableWalks.mono_l : ∀ k, (∀ y0 y1 y2 y3 y4 y5 y6 y7, LeO (laws_FnTableWalks.j0 k y0 y1 y2 y3 y4 y5 y6 y7) (laws_FnTableWalks.j0 (k + 1) y0 y1 y2 y3 y4 y5 y6 y7))
  | 0 => fun _ _ _ _ _ _ _ _ r h => by simp [laws_FnTableWalks.j0] at h
  | k + 1 => by
    have ih0 := laws_FnTableWalks.mono_l k
    · intro y0 y1 y2 y3 y4 y5 y6 y7
      unfold laws_FnTableWalks.j0
      repeat' first
      | (with_reducible exact ih0 _ _ _ _ _ _ _ _)
      | (with_reducible exact impl_Distance.mono _ _ _ _ _)
      | (with_reducible exact impl_IsLoopFree.mono _ _ _ _ _)
      | (with_reducible exact impl_IsRoute.mono _ _ _ _ _)
      | (with_reducible exact impl_PortAt.mono _ _ _ _ _ _ _)
      | (with_reducible exact impl_RouteNodes.mono _ _ _ _ _)
      | (with_reducible exact impl_WalkTable.mono _ _ _ _ _ _ _)
      | (with_reducible exact spec_DrawPlaces.mono _ _)
      | (with_reducible exact spec_DrawTable.mono _ _)
      | (with_reducible exact LeO.refl _)
      | (with_reducible exact LeO.none _)
      | (with_reducible refine LeO.ite ?_ ?_)
      | (with_reducible refine LeO.bind ?_ (fun _ => ?_))
      | exact ih0 _ _ _ _ _ _ _ _
      | exact impl_Distance.mono _ _ _ _ _
      | exact impl_IsLoopFree.mono _ _ _ _ _
      | exact impl_IsRoute.mono _ _ _ _ _
      | exact impl_PortAt.mono _ _ _ _ _ _ _
      | exact impl_RouteNodes.mono _ _ _ _ _
      | exact impl_WalkTable.mono _ _ _ _ _ _ _
      | exact spec_DrawPlaces.mono _ _
      | exact spec_DrawTable.mono _ _
      | exact LeO.none _
      | refine LeO.ite ?_ ?_
      | refine LeO.bind ?_ (fun _ => ?_)
theorem laws_FnTableWalks.mono : ∀ a0 k, LeO (laws_FnTableWalks.f k a0) (laws_FnTableWalks.f (k + 1) a0) := by
  intro a0 k
  have ih0 := laws_FnTableWalks.mono_l k
  unfold laws_FnTableWalks.f
  repeat' first
      | (with_reducible exact ih0 _ _ _ _ _ _ _ _)
      | (with_reducible exact impl_Distance.mono _ _ _ _ _)
      | (with_reducible exact impl_IsLoopFree.mono _ _ _ _ _)
      | (with_reducible exact impl_IsRoute.mono _ _ _ _ _)
      | (with_reducible exact impl_PortAt.mono _ _ _ _ _ _ _)
      | (with_reducible exact impl_RouteNodes.mono _ _ _ _ _)
      | (with_reducible exact impl_WalkTable.mono _ _ _ _ _ _ _)
      | (with_reducible exact spec_DrawPlaces.mono _ _)
      | (with_reducible exact spec_DrawTable.mono _ _)
      | (with_reducible exact LeO.refl _)
      | (with_reducible exact LeO.none _)
      | (with_reducible refine LeO.ite ?_ ?_)
      | (with_reducible refine LeO.bind ?_ (fun _ => ?_))
      | exact ih0 _ _ _ _ _ _ _ _
      | exact impl_Distance.mono _ _ _ _ _
      | exact impl_IsLoopFree.mono _ _ _ _ _
      | exact impl_IsRoute.mono _ _ _ _ _
      | exact impl_PortAt.mono _ _ _ _ _ _ _
      | exact impl_RouteNodes.mono _ _ _ _ _
      | exact impl_WalkTable.mono _ _ _ _ _ _ _
      | exact spec_DrawPlaces.mono _ _
      | exact spec_DrawTable.mono _ _
      | exact LeO.none _
      | refine LeO.ite ?_ ?_
      | refine LeO.bind ?_ (fun _ => ?_)
def laws_FnTableWalks.T14 : Bool × List (List Nat × List Nat) := (true, [([], []), ([], []), ([0, 1], [0, 1]), ([2, 2], [2]), ([3], [3]), ([3], [3]), ([4, 5, 3, 3], [3, 4, 5]), ([3, 6], [3, 6]), ([7, 6], [7]), ([8], [8]), ([8], [8]), ([8], [8]), ([8], [8]), ([9, 10, 11, 12, 8, 8], [8, 9, 10, 11, 12]), ([8], [8]), ([14, 8], [8, 14]), ([15, 8], [8, 15]), ([16, 8], [8, 16]), ([13, 17, 8], [8, 13, 17]), ([8, 18], [8, 18]), ([19, 13, 0, 1, 2, 3, 4, 5, 6, 7, 8, 9, 10, 11, 12, 13, 14, 15, 16, 17, 18, 19], [19])])
def laws_FnTableWalks.B14 : List Nat := [0, 0, 3, 7, 15, 15, 63, 127, 255, 511, 511, 511, 511, 8191, 511, 16895, 49663, 115199, 262143, 524287, 1048575]
theorem laws_FnTableWalks.tab14 : rtab .any (opsOf Try.f4 14) = laws_FnTableWalks.T14 := by kernel_rfl
theorem laws_FnTableWalks.bits14 : waitsOk laws_FnTableWalks.T14.2 laws_FnTableWalks.B14 = true := by kernel_rfl
set_option maxHeartbeats 8000000 in
set_option maxRecDepth 100000 in
theorem laws_FnTableWalks.calls (k : Nat) (A0 : Option Addr) (c0 : Nat) (l0 : List Int) (r : Bool) (w : World) (hr0 : Kd.C (Kd.int .u8) w A0 l0.length l0) (hc0 : l0.length ≤ c0) (hrt0 : r = true) (h : laws_FnTableWalks.f k l0 = some r) :
    Calls Try.prog 4 #[.slice A0 l0.length c0] w fun e w' => e = .returned (.bool r) ∧ Below w.heap.size w w' := by
  have hu31 := Try.underlying31
  have hu40 := Try.underlying40
  have hu29 := Try.underlying29
  have HRT := Aside0.mk hrt0
  clear hrt0
  have HR0 := Aside0.mk hr0
  have HC0 := Aside0.mk hc0
  clear hr0 hc0
  have HB := Aside0.mk (Below.refl w.heap.size w)
  have H : ((laws_big.f l0).bind fun t401 => (if t401 = true then (some true) else ((spec_DrawTable.f k l0).bind fun bt402 => ((spec_DrawPlaces.f k l0).bind fun t412 => (if 0 < (t412.length : Int) then (if (wrap64 (bt402.1 * bt402.2.1)) = 0 then (none) else (if 1 < (t412.length : Int) then ((impl_WalkTable.f k bt402.1 bt402.2.1 bt402.2.2.1 bt402.2.2.2 (Int.tmod (rd t412 0) (wrap64 (bt402.1 * bt402.2.1))) (Int.tmod (rd t412 1) (wrap64 (bt402.1 * bt402.2.1)))).bind fun t417 => (if (Int.tmod (rd t412 0) (wrap64 (bt402.1 * bt402.2.1))) = (Int.tmod (rd t412 1) (wrap64 (bt402.1 * bt402.2.1))) then (if (t417.length : Int) = 0 then ((impl_PortAt.f k bt402.1 bt402.2.1 bt402.2.2.1 bt402.2.2.2 (Int.tmod (rd t412 0) (wrap64 (bt402.1 * bt402.2.1))) (Int.tmod (rd t412 0) (wrap64 (bt402.1 * bt402.2.1)))).bind fun t420 => (some (t420 == 4))) else (some false)) else ((impl_RouteNodes.f k bt402.1 bt402.2.1 bt402.2.2.1 t417).bind fun t421 => (if (t417.length : Int) = 0 then (laws_FnTableWalks.j0 k (Int.tmod (rd t412 0) (wrap64 (bt402.1 * bt402.2.1))) (Int.tmod (rd t412 1) (wrap64 (bt402.1 * bt402.2.1))) t417 true bt402.1 bt402.2.1 bt402.2.2.1 bt402.2.2.2) else (if (t421.length : Int) = (wrap64 ((t417.length : Int) + 1)) then (if 0 < (t421.length : Int) then (if (rd t421 0) = (Int.tmod (rd t412 0) (wrap64 (bt402.1 * bt402.2.1))) then (if 0 ≤ (wrap64 ((t421.length : Int) - 1)) then (if (wrap64 ((t421.length : Int) - 1)) < (t421.length : Int) then (if (rd t421 (wrap64 ((t421.length : Int) - 1))) = (Int.tmod (rd t412 1) (wrap64 (bt402.1 * bt402.2.1))) then ((impl_Distance.f k bt402.1 bt402.2.1 (Int.tmod (rd t412 0) (wrap64 (bt402.1 * bt402.2.1))) (Int.tmod (rd t412 1) (wrap64 (bt402.1 * bt402.2.1)))).bind fun t426 => (laws_FnTableWalks.j0 k (Int.tmod (rd t412 0) (wrap64 (bt402.1 * bt402.2.1))) (Int.tmod (rd t412 1) (wrap64 (bt402.1 * bt402.2.1))) t417 (decide ((t417.length : Int) < t426)) bt402.1 bt402.2.1 bt402.2.2.1 bt402.2.2.2)) else (laws_FnTableWalks.j0 k (Int.tmod (rd t412 0) (wrap64 (bt402.1 * bt402.2.1))) (Int.tmod (rd t412 1) (wrap64 (bt402.1 * bt402.2.1))) t417 true bt402.1 bt402.2.1 bt402.2.2.1 bt402.2.2.2)) else (none)) else (none)) else (laws_FnTableWalks.j0 k (Int.tmod (rd t412 0) (wrap64 (bt402.1 * bt402.2.1))) (Int.tmod (rd t412 1) (wrap64 (bt402.1 * bt402.2.1))) t417 true bt402.1 bt402.2.1 bt402.2.2.1 bt402.2.2.2)) else (none)) else (laws_FnTableWalks.j0 k (Int.tmod (rd t412 0) (wrap64 (bt402.1 * bt402.2.1))) (Int.tmod (rd t412 1) (wrap64 (bt402.1 * bt402.2.1))) t417 true bt402.1 bt402.2.1 bt402.2.2.1 bt402.2.2.2)))))) else (none))) else (none)))))) = some r := h
  clear h
  replace H := Option.bind_eq_some_iff.mp H
  obtain ⟨t401, A20, H⟩ := H
  replace H : (if t401 = true then (some true) else ((spec_DrawTable.f k l0).bind fun bt402 => ((spec_DrawPlaces.f k l0).bind fun t412 => (if 0 < (t412.length : Int) then (if (wrap64 (bt402.1 * bt402.2.1)) = 0 then (none) else (if 1 < (t412.length : Int) then ((impl_WalkTable.f k bt402.1 bt402.2.1 bt402.2.2.1 bt402.2.2.2 (Int.tmod (rd t412 0) (wrap64 (bt402.1 * bt402.2.1))) (Int.tmod (rd t412 1) (wrap64 (bt402.1 * bt402.2.1)))).bind fun t417 => (if (Int.tmod (rd t412 0) (wrap64 (bt402.1 * bt402.2.1))) = (Int.tmod (rd t412 1) (wrap64 (bt402.1 * bt402.2.1))) then (if (t417.length : Int) = 0 then ((impl_PortAt.f k bt402.1 bt402.2.1 bt402.2.2.1 bt402.2.2.2 (Int.tmod (rd t412 0) (wrap64 (bt402.1 * bt402.2.1))) (Int.tmod (rd t412 0) (wrap64 (bt402.1 * bt402.2.1)))).bind fun t420 => (some (t420 == 4))) else (some false)) else ((impl_RouteNodes.f k bt402.1 bt402.2.1 bt402.2.2.1 t417).bind fun t421 => (if (t417.length : Int) = 0 then (laws_FnTableWalks.j0 k (Int.tmod (rd t412 0) (wrap64 (bt402.1 * bt402.2.1))) (Int.tmod (rd t412 1) (wrap64 (bt402.1 * bt402.2.1))) t417 true bt402.1 bt402.2.1 bt402.2.2.1 bt402.2.2.2) else (if (t421.length : Int) = (wrap64 ((t417.length : Int) + 1)) then (if 0 < (t421.length : Int) then (if (rd t421 0) = (Int.tmod (rd t412 0) (wrap64 (bt402.1 * bt402.2.1))) then (if 0 ≤ (wrap64 ((t421.length : Int) - 1)) then (if (wrap64 ((t421.length : Int) - 1)) < (t421.length : Int) then (if (rd t421 (wrap64 ((t421.length : Int) - 1))) = (Int.tmod (rd t412 1) (wrap64 (bt402.1 * bt402.2.1))) then ((impl_Distance.f k bt402.1 bt402.2.1 (Int.tmod (rd t412 0) (wrap64 (bt402.1 * bt402.2.1))) (Int.tmod (rd t412 1) (wrap64 (bt402.1 * bt402.2.1)))).bind fun t426 => (laws_FnTableWalks.j0 k (Int.tmod (rd t412 0) (wrap64 (bt402.1 * bt402.2.1))) (Int.tmod (rd t412 1) (wrap64 (bt402.1 * bt402.2.1))) t417 (decide ((t417.length : Int) < t426)) bt402.1 bt402.2.1 bt402.2.2.1 bt402.2.2.2)) else (laws_FnTableWalks.j0 k (Int.tmod (rd t412 0) (wrap64 (bt402.1 * bt402.2.1))) (Int.tmod (rd t412 1) (wrap64 (bt402.1 * bt402.2.1))) t417 true bt402.1 bt402.2.1 bt402.2.2.1 bt402.2.2.2)) else (none)) else (none)) else (laws_FnTableWalks.j0 k (Int.tmod (rd t412 0) (wrap64 (bt402.1 * bt402.2.1))) (Int.tmod (rd t412 1) (wrap64 (bt402.1 * bt402.2.1))) t417 true bt402.1 bt402.2.1 bt402.2.2.1 bt402.2.2.2)) else (none)) else (laws_FnTableWalks.j0 k (Int.tmod (rd t412 0) (wrap64 (bt402.1 * bt402.2.1))) (Int.tmod (rd t412 1) (wrap64 (bt402.1 * bt402.2.1))) t417 true bt402.1 bt402.2.1 bt402.2.2.1 bt402.2.2.2)))))) else (none))) else (none))))) = some r := H
  have A2 := Aside0.mk A20
  clear A20
  by_cases c3 : t401 = true
  · subst c3
    have H1 : (some true) = some r := by rw [if_pos rfl] at H; exact H
    clear H
    have H := H1
    clear H1
    obtain rfl := Option.some.inj H
    go_enter Try.func4, Try.ntmps4
    go_wp2_with (first | ((with_reducible refine gate_callee (f := 18) rfl ?_); refine goesL_ (some 12) rfl rfl Try.func18 (by kernel_rfl) rfl #[.slice A0 l0.length c0] rfl (by (try simp only [List.map_toArray, List.map_cons, List.map_nil]); first | done | rfl | (simp only [List.length_drop, List.length_take]; rfl)) ?_; (with_reducible refine (laws_big.calls _ _ l0 true _ ?side1 ?side2 A2.out).mono ?_); (case side1 => repeat (first | exact HR0.out | (with_reducible refine Kd.C_alloc ?_ _) | (with_reducible refine Kd.C_drewN ?_ _) | (with_reducible refine Kd.C_drew ?_))); (case side2 => exact HC0.out); rintro e w' ⟨rfl, ⟨nd, rfl⟩⟩; refine ⟨_, rfl, ?_⟩))
    go_ret
    exact ⟨by first | rfl | (simp [errW_none, errW_some] <;> rfl) | (simp [*, errW_none, errW_some] <;> rfl), by repeat (first | (with_reducible first | exact HB.out | apply below_alloc | apply pw_below_drewN | apply below_drew1) | exact HB.out)⟩
  · replace c3 := Bool.eq_false_iff.mpr c3
    subst c3
    have H1 : ((spec_DrawTable.f k l0).bind fun bt402 => ((spec_DrawPlaces.f k l0).bind fun t412 => (if 0 < (t412.length : Int) then (if (wrap64 (bt402.1 * bt402.2.1)) = 0 then (none) else (if 1 < (t412.length : Int) then ((impl_WalkTable.f k bt402.1 bt402.2.1 bt402.2.2.1 bt402.2.2.2 (Int.tmod (rd t412 0) (wrap64 (bt402.1 * bt402.2.1))) (Int.tmod (rd t412 1) (wrap64 (bt402.1 * bt402.2.1)))).bind fun t417 => (if (Int.tmod (rd t412 0) (wrap64 (bt402.1 * bt402.2.1))) = (Int.tmod (rd t412 1) (wrap64 (bt402.1 * bt402.2.1))) then (if (t417.length : Int) = 0 then ((impl_PortAt.f k bt402.1 bt402.2.1 bt402.2.2.1 bt402.2.2.2 (Int.tmod (rd t412 0) (wrap64 (bt402.1 * bt402.2.1))) (Int.tmod (rd t412 0) (wrap64 (bt402.1 * bt402.2.1)))).bind fun t420 => (some (t420 == 4))) else (some false)) else ((impl_RouteNodes.f k bt402.1 bt402.2.1 bt402.2.2.1 t417).bind fun t421 => (if (t417.length : Int) = 0 then (laws_FnTableWalks.j0 k (Int.tmod (rd t412 0) (wrap64 (bt402.1 * bt402.2.1))) (Int.tmod (rd t412 1) (wrap64 (bt402.1 * bt402.2.1))) t417 true bt402.1 bt402.2.1 bt402.2.2.1 bt402.2.2.2) else (if (t421.length : Int) = (wrap64 ((t417.length : Int) + 1)) then (if 0 < (t421.length : Int) then (if (rd t421 0) = (Int.tmod (rd t412 0) (wrap64 (bt402.1 * bt402.2.1))) then (if 0 ≤ (wrap64 ((t421.length : Int) - 1)) then (if (wrap64 ((t421.length : Int) - 1)) < (t421.length : Int) then (if (rd t421 (wrap64 ((t421.length : Int) - 1))) = (Int.tmod (rd t412 1) (wrap64 (bt402.1 * bt402.2.1))) then ((impl_Distance.f k bt402.1 bt402.2.1 (Int.tmod (rd t412 0) (wrap64 (bt402.1 * bt402.2.1))) (Int.tmod (rd t412 1) (wrap64 (bt402.1 * bt402.2.1)))).bind fun t426 => (laws_FnTableWalks.j0 k (Int.tmod (rd t412 0) (wrap64 (bt402.1 * bt402.2.1))) (Int.tmod (rd t412 1) (wrap64 (bt402.1 * bt402.2.1))) t417 (decide ((t417.length : Int) < t426)) bt402.1 bt402.2.1 bt402.2.2.1 bt402.2.2.2)) else (laws_FnTableWalks.j0 k (Int.tmod (rd t412 0) (wrap64 (bt402.1 * bt402.2.1))) (Int.tmod (rd t412 1) (wrap64 (bt402.1 * bt402.2.1))) t417 true bt402.1 bt402.2.1 bt402.2.2.1 bt402.2.2.2)) else (none)) else (none)) else (laws_FnTableWalks.j0 k (Int.tmod (rd t412 0) (wrap64 (bt402.1 * bt402.2.1))) (Int.tmod (rd t412 1) (wrap64 (bt402.1 * bt402.2.1))) t417 true bt402.1 bt402.2.1 bt402.2.2.1 bt402.2.2.2)) else (none)) else (laws_FnTableWalks.j0 k (Int.tmod (rd t412 0) (wrap64 (bt402.1 * bt402.2.1))) (Int.tmod (rd t412 1) (wrap64 (bt402.1 * bt402.2.1))) t417 true bt402.1 bt402.2.1 bt402.2.2.1 bt402.2.2.2)))))) else (none))) else (none)))) = some r := by rw [if_neg (show ¬ (false = true) by decide)] at H; exact H
    clear H
    have H := H1
    clear H1
    replace H := Option.bind_eq_some_iff.mp H
    obtain ⟨⟨t402, t403, t404, t407⟩, A40, H⟩ := H
    replace H : ((spec_DrawPlaces.f k l0).bind fun t412 => (if 0 < (t412.length : Int) then (if (wrap64 (t402 * t403)) = 0 then (none) else (if 1 < (t412.length : Int) then ((impl_WalkTable.f k t402 t403 t404 t407 (Int.tmod (rd t412 0) (wrap64 (t402 * t403))) (Int.tmod (rd t412 1) (wrap64 (t402 * t403)))).bind fun t417 => (if (Int.tmod (rd t412 0) (wrap64 (t402 * t403))) = (Int.tmod (rd t412 1) (wrap64 (t402 * t403))) then (if (t417.length : Int) = 0 then ((impl_PortAt.f k t402 t403 t404 t407 (Int.tmod (rd t412 0) (wrap64 (t402 * t403))) (Int.tmod (rd t412 0) (wrap64 (t402 * t403)))).bind fun t420 => (some (t420 == 4))) else (some false)) else ((impl_RouteNodes.f k t402 t403 t404 t417).bind fun t421 => (if (t417.length : Int) = 0 then (laws_FnTableWalks.j0 k (Int.tmod (rd t412 0) (wrap64 (t402 * t403))) (Int.tmod (rd t412 1) (wrap64 (t402 * t403))) t417 true t402 t403 t404 t407) else (if (t421.length : Int) = (wrap64 ((t417.length : Int) + 1)) then (if 0 < (t421.length : Int) then (if (rd t421 0) = (Int.tmod (rd t412 0) (wrap64 (t402 * t403))) then (if 0 ≤ (wrap64 ((t421.length : Int) - 1)) then (if (wrap64 ((t421.length : Int) - 1)) < (t421.length : Int) then (if (rd t421 (wrap64 ((t421.length : Int) - 1))) = (Int.tmod (rd t412 1) (wrap64 (t402 * t403))) then ((impl_Distance.f k t402 t403 (Int.tmod (rd t412 0) (wrap64 (t402 * t403))) (Int.tmod (rd t412 1) (wrap64 (t402 * t403)))).bind fun t426 => (laws_FnTableWalks.j0 k (Int.tmod (rd t412 0) (wrap64 (t402 * t403))) (Int.tmod (rd t412 1) (wrap64 (t402 * t403))) t417 (decide ((t417.length : Int) < t426)) t402 t403 t404 t407)) else (laws_FnTableWalks.j0 k (Int.tmod (rd t412 0) (wrap64 (t402 * t403))) (Int.tmod (rd t412 1) (wrap64 (t402 * t403))) t417 true t402 t403 t404 t407)) else (none)) else (none)) else (laws_FnTableWalks.j0 k (Int.tmod (rd t412 0) (wrap64 (t402 * t403))) (Int.tmod (rd t412 1) (wrap64 (t402 * t403))) t417 true t402 t403 t404 t407)) else (none)) else (laws_FnTableWalks.j0 k (Int.tmod (rd t412 0) (wrap64 (t402 * t403))) (Int.tmod (rd t412 1) (wrap64 (t402 * t403))) t417 true t402 t403 t404 t407)))))) else (none))) else (none))) = some r := H
    have A4 := Aside0.mk A40
    clear A40
    replace H := Option.bind_eq_some_iff.mp H
    obtain ⟨t412, A50, H⟩ := H
    replace H : (if 0 < (t412.length : Int) then (if (wrap64 (t402 * t403)) = 0 then (none) else (if 1 < (t412.length : Int) then ((impl_WalkTable.f k t402 t403 t404 t407 (Int.tmod (rd t412 0) (wrap64 (t402 * t403))) (Int.tmod (rd t412 1) (wrap64 (t402 * t403)))).bind fun t417 => (if (Int.tmod (rd t412 0) (wrap64 (t402 * t403))) = (Int.tmod (rd t412 1) (wrap64 (t402 * t403))) then (if (t417.length : Int) = 0 then ((impl_PortAt.f k t402 t403 t404 t407 (Int.tmod (rd t412 0) (wrap64 (t402 * t403))) (Int.tmod (rd t412 0) (wrap64 (t402 * t403)))).bind fun t420 => (some (t420 == 4))) else (some false)) else ((impl_RouteNodes.f k t402 t403 t404 t417).bind fun t421 => (if (t417.length : Int) = 0 then (laws_FnTableWalks.j0 k (Int.tmod (rd t412 0) (wrap64 (t402 * t403))) (Int.tmod (rd t412 1) (wrap64 (t402 * t403))) t417 true t402 t403 t404 t407) else (if (t421.length : Int) = (wrap64 ((t417.length : Int) + 1)) then (if 0 < (t421.length : Int) then (if (rd t421 0) = (Int.tmod (rd t412 0) (wrap64 (t402 * t403))) then (if 0 ≤ (wrap64 ((t421.length : Int) - 1)) then (if (wrap64 ((t421.length : Int) - 1)) < (t421.length : Int) then (if (rd t421 (wrap64 ((t421.length : Int) - 1))) = (Int.tmod (rd t412 1) (wrap64 (t402 * t403))) then ((impl_Distance.f k t402 t403 (Int.tmod (rd t412 0) (wrap64 (t402 * t403))) (Int.tmod (rd t412 1) (wrap64 (t402 * t403)))).bind fun t426 => (laws_FnTableWalks.j0 k (Int.tmod (rd t412 0) (wrap64 (t402 * t403))) (Int.tmod (rd t412 1) (wrap64 (t402 * t403))) t417 (decide ((t417.length : Int) < t426)) t402 t403 t404 t407)) else (laws_FnTableWalks.j0 k (Int.tmod (rd t412 0) (wrap64 (t402 * t403))) (Int.tmod (rd t412 1) (wrap64 (t402 * t403))) t417 true t402 t403 t404 t407)) else (none)) else (none)) else (laws_FnTableWalks.j0 k (Int.tmod (rd t412 0) (wrap64 (t402 * t403))) (Int.tmod (rd t412 1) (wrap64 (t402 * t403))) t417 true t402 t403 t404 t407)) else (none)) else (laws_FnTableWalks.j0 k (Int.tmod (rd t412 0) (wrap64 (t402 * t403))) (Int.tmod (rd t412 1) (wrap64 (t402 * t403))) t417 true t402 t403 t404 t407)))))) else (none))) else (none)) = some r := H
    have A5 := Aside0.mk A50
    clear A50
    by_cases c6 : 0 < (t412.length : Int)
    · rw [if_pos c6] at H
      have c6b0 : decide (0 < (t412.length : Int)) = true := decide_eq_true c6
      have c6b1 : decide (0 < t412.length) = true := decide_eq_true (by omega)
      clear c6
      by_cases c7 : (wrap64 (t402 * t403)) = 0
      · rw [if_pos c7] at H
        exact absurd H (by simp)
      · rw [if_neg c7] at H
        have c7b0 : ((wrap64 (t402 * t403)) == 0) = false := beq_eq_false_iff_ne.mpr c7
        have c7b1 : ((wrap64 (t402 * t403)) != 0) = true := bne_iff_ne.mpr c7
        by_cases c8 : 1 < (t412.length : Int)
        · rw [if_pos c8] at H
          have c8b0 : decide (1 < (t412.length : Int)) = true := decide_eq_true c8
          have c8b1 : decide (1 < t412.length) = true := decide_eq_true (by omega)
          clear c8
          replace H := Option.bind_eq_some_iff.mp H
          obtain ⟨t417, A90, H⟩ := H
          replace H : (if (Int.tmod (rd t412 0) (wrap64 (t402 * t403))) = (Int.tmod (rd t412 1) (wrap64 (t402 * t403))) then (if (t417.length : Int) = 0 then ((impl_PortAt.f k t402 t403 t404 t407 (Int.tmod (rd t412 0) (wrap64 (t402 * t403))) (Int.tmod (rd t412 0) (wrap64 (t402 * t403)))).bind fun t420 => (some (t420 == 4))) else (some false)) else ((impl_RouteNodes.f k t402 t403 t404 t417).bind fun t421 => (if (t417.length : Int) = 0 then (laws_FnTableWalks.j0 k (Int.tmod (rd t412 0) (wrap64 (t402 * t403))) (Int.tmod (rd t412 1) (wrap64 (t402 * t403))) t417 true t402 t403 t404 t407) else (if (t421.length : Int) = (wrap64 ((t417.length : Int) + 1)) then (if 0 < (t421.length : Int) then (if (rd t421 0) = (Int.tmod (rd t412 0) (wrap64 (t402 * t403))) then (if 0 ≤ (wrap64 ((t421.length : Int) - 1)) then (if (wrap64 ((t421.length : Int) - 1)) < (t421.length : Int) then (if (rd t421 (wrap64 ((t421.length : Int) - 1))) = (Int.tmod (rd t412 1) (wrap64 (t402 * t403))) then ((impl_Distance.f k t402 t403 (Int.tmod (rd t412 0) (wrap64 (t402 * t403))) (Int.tmod (rd t412 1) (wrap64 (t402 * t403)))).bind fun t426 => (laws_FnTableWalks.j0 k (Int.tmod (rd t412 0) (wrap64 (t402 * t403))) (Int.tmod (rd t412 1) (wrap64 (t402 * t403))) t417 (decide ((t417.length : Int) < t426)) t402 t403 t404 t407)) else (laws_FnTableWalks.j0 k (Int.tmod (rd t412 0) (wrap64 (t402 * t403))) (Int.tmod (rd t412 1) (wrap64 (t402 * t403))) t417 true t402 t403 t404 t407)) else (none)) else (none)) else (laws_FnTableWalks.j0 k (Int.tmod (rd t412 0) (wrap64 (t402 * t403))) (Int.tmod (rd t412 1) (wrap64 (t402 * t403))) t417 true t402 t403 t404 t407)) else (none)) else (laws_FnTableWalks.j0 k (Int.tmod (rd t412 0) (wrap64 (t402 * t403))) (Int.tmod (rd t412 1) (wrap64 (t402 * t403))) t417 true t402 t403 t404 t407))))) = some r := H
          have A9 := Aside0.mk A90
          clear A90
          by_cases c10 : (Int.tmod (rd t412 0) (wrap64 (t402 * t403))) = (Int.tmod (rd t412 1) (wrap64 (t402 * t403)))
          · rw [if_pos c10] at H
            have c10b0 : ((Int.tmod (rd t412 0) (wrap64 (t402 * t403))) == (Int.tmod (rd t412 1) (wrap64 (t402 * t403)))) = true := beq_iff_eq.mpr c10
            have c10b1 : ((Int.tmod (rd t412 0) (wrap64 (t402 * t403))) != (Int.tmod (rd t412 1) (wrap64 (t402 * t403)))) = false := bne_eq_false_iff_eq.mpr c10
            clear c10
            by_cases c11 : (t417.length : Int) = 0
            · rw [if_pos c11] at H
              have c11b0 : ((t417.length : Int) == 0) = true := beq_iff_eq.mpr c11
              have c11b1 : ((t417.length : Int) != 0) = false := bne_eq_false_iff_eq.mpr c11
              clear c11
              replace H := Option.bind_eq_some_iff.mp H
              obtain ⟨t420, A120, H⟩ := H
              replace H : (some (t420 == 4)) = some r := H
              have A12 := Aside0.mk A120
              clear A120
              obtain rfl := Option.some.inj H
              go_enter Try.func4, Try.ntmps4
              go_wp2_with (first | ((with_reducible refine gate_callee (f := 18) rfl ?_); refine goesL_ (some 12) rfl rfl Try.func18 (by kernel_rfl) rfl #[.slice A0 l0.length c0] rfl (by (try simp only [List.map_toArray, List.map_cons, List.map_nil]); first | done | rfl | (simp only [List.length_drop, List.length_take]; rfl)) ?_; (with_reducible refine (laws_big.calls _ _ l0 false _ ?side1 ?side2 A2.out).mono ?_); (case side1 => repeat (first | exact HR0.out | (with_reducible refine Kd.C_alloc ?_ _) | (with_reducible refine Kd.C_drewN ?_ _) | (with_reducible refine Kd.C_drew ?_))); (case side2 => exact HC0.out); rintro e w' ⟨rfl, ⟨nd, rfl⟩⟩; refine ⟨_, rfl, ?_⟩) | ((with_reducible refine gate_callee (f := 19) rfl ?_); refine goesL_ (some 15) rfl rfl Try.func19 (by kernel_rfl) rfl #[.slice A0 l0.length c0] rfl (by (try simp only [List.map_toArray, List.map_cons, List.map_nil]); first | done | rfl | (simp only [List.length_drop, List.length_take]; rfl)) ?_; (with_reducible refine (spec_DrawTable.calls k _ _ l0 t402 t403 t404 t407 _ ?side1 ?side2 A4.out).mono ?_); (case side1 => repeat (first | exact HR0.out | (with_reducible refine Kd.C_alloc ?_ _) | (with_reducible refine Kd.C_drewN ?_ _) | (with_reducible refine Kd.C_drew ?_))); (case side2 => exact HC0.out); rintro e w13 ⟨v405, v408, rfl, ho0, ho1, hb⟩; refine ⟨_, rfl, ?_⟩; have n0_ := Aside0.mk (Kd.R_lower ho0 (below_size (by repeat (first | (with_reducible first | exact HB.out | apply below_alloc | apply pw_below_drewN | apply below_drew1) | exact HB.out)))); have n1_ := Aside0.mk (Kd.R_lower ho1 (below_size (by repeat (first | (with_reducible first | exact HB.out | apply below_alloc | apply pw_below_drewN | apply below_drew1) | exact HB.out)))); have n2_ := Aside0.mk (below_step (by repeat (first | (with_reducible first | exact HB.out | apply below_alloc | apply pw_below_drewN | apply below_drew1) | exact HB.out)) hb); clear HB; have HO406 := n0_; have HO409 := n1_; have HB := n2_; clear n0_ n1_ n2_; (try clear hb); (try clear hb2); (try clear hk); (try clear hi); (try clear ho0); (try clear ho1)) | ((with_reducible refine gate_dst (N := 3) rfl ?_); (try (refine gate_guard (by rfl) ?_; dsimp only)); refine box_event ?hg (N := 3) ?hd (cs := #[.int .i64 0, .int .i64 0, .slice none 0 0]) (t := 31) ?hr ?_; (case hd => rfl); (case hg => rfl); (case hr => first | (go_simp; done) | (go_simp; rfl)); intro gb410 hg w14 hbox hb; have n0_ := Aside0.mk (Kd.R_below (by (with_reducible repeat (first | apply Kd.R_alloc | apply Kd.R_drewN | apply Kd.R_drew)); exact HO406.out) hb); have n1_ := Aside0.mk (Kd.R_below (by (with_reducible repeat (first | apply Kd.R_alloc | apply Kd.R_drewN | apply Kd.R_drew)); exact HO409.out) hb); have n2_ := Aside0.mk (below_step (by repeat (first | (with_reducible first | exact HB.out | apply below_alloc | apply pw_below_drewN | apply below_drew1) | exact HB.out)) hb); have n3_ := Aside0.mk (hbox); have n4_ := Aside0.mk ((by rw [hg]; exact (below_size (by repeat (first | (with_reducible first | exact HB.out | apply below_alloc | apply pw_below_drewN | apply below_drew1) | exact HB.out))) : w.heap.size ≤ gb410)); have n5_ := Aside0.mk ((by rw [hg]; exact (below_size (by repeat (first | (with_reducible first | exact HB.out | apply below_alloc | apply pw_below_drewN | apply below_drew1) | exact HB.out))) : w.heap.size ≤ gb410)); clear HO406; clear HO409; clear HB; have HO406 := n0_; have HO409 := n1_; have HB := n2_; have BK410 := n3_; have GW410 := n4_; have GE410 := n5_; clear n0_ n1_ n2_ n3_ n4_ n5_; clear hb hbox hg) | ((with_reducible refine gate_dst (N := 4) rfl ?_); (try (refine gate_guard (by rfl) ?_; dsimp only)); refine box_event ?hg (N := 4) ?hd (cs := #[.slice none 0 0]) (t := 40) ?hr ?_; (case hd => rfl); (case hg => rfl); (case hr => first | (go_simp; done) | (go_simp; rfl)); intro gb411 hg w15 hbox hb; have n0_ := Aside0.mk (Kd.R_below (by (with_reducible repeat (first | apply Kd.R_alloc | apply Kd.R_drewN | apply Kd.R_drew)); exact HO406.out) hb); have n1_ := Aside0.mk (Kd.R_below (by (with_reducible repeat (first | apply Kd.R_alloc | apply Kd.R_drewN | apply Kd.R_drew)); exact HO409.out) hb); have n2_ := Aside0.mk (blk_below (g := gb410) (o := .cells #[.int .i64 0, .int .i64 0, .slice none 0 0] 31 (0, 0)) (by (with_reducible repeat (first | refine blk_drewN ?_ _ | refine blk_drew ?_ | refine blk_alloc ?_ _)); exact BK410.out) hb); have n3_ := Aside0.mk (below_step (by repeat (first | (with_reducible first | exact HB.out | apply below_alloc | apply pw_below_drewN | apply below_drew1 | refine below_set ?_ GE410.out) | exact HB.out)) hb); have n4_ := Aside0.mk (hbox); have n5_ := Aside0.mk ((by rw [hg]; exact (below_size (by repeat (first | (with_reducible first | exact HB.out | apply below_alloc | apply pw_below_drewN | apply below_drew1 | refine below_set ?_ GE410.out) | exact HB.out))) : w.heap.size ≤ gb411)); have n6_ := Aside0.mk ((by rw [hg]; exact (below_size (by repeat (first | (with_reducible first | exact HB.out | apply below_alloc | apply pw_below_drewN | apply below_drew1 | refine below_set ?_ GE410.out) | exact HB.out))) : w.heap.size ≤ gb411)); have n7_ := Aside0.mk ((by rw [hg]; exact Nat.ne_of_lt (blk_lt (g := gb410) (o := .cells #[.int .i64 0, .int .i64 0, .slice none 0 0] 31 (0, 0)) (by (with_reducible repeat (first | refine blk_drewN ?_ _ | refine blk_drew ?_ | refine blk_alloc ?_ _)); exact BK410.out)) : gb410 ≠ gb411)); have n8_ := Aside0.mk ((by rw [hg]; exact Nat.ne_of_gt (blk_lt (g := gb410) (o := .cells #[.int .i64 0, .int .i64 0, .slice none 0 0] 31 (0, 0)) (by (with_reducible repeat (first | refine blk_drewN ?_ _ | refine blk_drew ?_ | refine blk_alloc ?_ _)); exact BK410.out)) : gb411 ≠ gb410)); clear HO406; clear HO409; clear BK410; clear HB; have HO406 := n0_; have HO409 := n1_; have BK410 := n2_; have HB := n3_; have BK411 := n4_; have GW411 := n5_; have GE411 := n6_; have NB410_411 := n7_; have NB411_410 := n8_; clear n0_ n1_ n2_ n3_ n4_ n5_ n6_ n7_ n8_; clear hb hbox hg; have hnb16 := NB410_411.out; have hnc16 := NB411_410.out; have hcz17_0 : w15.cell? ⟨gb410, 0, none⟩ = some (.int .i64 0) := (blk_cell BK410.out 0).trans rfl; have hcz17_1 : w15.cell? ⟨gb410, 1, none⟩ = some (.int .i64 0) := (blk_cell BK410.out 1).trans rfl; have hcz17_2 : w15.cell? ⟨gb410, 2, none⟩ = some (.slice none 0 0) := (blk_cell BK410.out 2).trans rfl; have hfz17_0 := blk_frozen BK410.out 0; have hfz17_1 := blk_frozen BK410.out 1; have hfz17_2 := blk_frozen BK410.out 2; obtain ⟨Ao18, co18, eo18⟩ := Kd.R_slice HO406.out; subst eo18; obtain ⟨Ao19, co19, eo19⟩ := Kd.R_slice HO409.out; subst eo19; have hcz20_0 : w15.cell? ⟨gb411, 0, none⟩ = some (.slice none 0 0) := (blk_cell BK411.out 0).trans rfl; have hfz20_0 := blk_frozen BK411.out 0) | ((with_reducible refine gate_callee (f := 20) rfl ?_); refine goesL_ (some 19) rfl rfl Try.func20 (by kernel_rfl) rfl #[.slice A0 l0.length c0] rfl (by (try simp only [List.map_toArray, List.map_cons, List.map_nil]); first | done | rfl | (simp only [List.length_drop, List.length_take]; rfl)) ?_; (with_reducible refine (spec_DrawPlaces.calls k _ _ l0 t412 _ ?side1 ?side2 A5.out).mono ?_); (case side1 => exact Kd.C_below HR0.out (by repeat (first | (with_reducible first | exact HB.out | apply below_alloc | apply pw_below_drewN | apply below_drew1 | refine below_set ?_ GE410.out | refine below_set ?_ GE411.out) | exact HB.out))); (case side2 => exact HC0.out); rintro e w21 ⟨v413, rfl, ho0, hb⟩; refine ⟨_, rfl, ?_⟩; have n0_ := Aside0.mk (Kd.R_elder' (by (with_reducible repeat (first | apply Kd.R_alloc | apply Kd.R_drewN | apply Kd.R_drew)); exact (Kd.R_mono (Kd.R_mono (Kd.R_far (p := ⟨gb411, 0, none⟩) (Kd.R_far (p := ⟨gb410, 2, none⟩) (Kd.R_far (p := ⟨gb410, 1, none⟩) (Kd.R_far (p := ⟨gb410, 0, none⟩) (Kd.R_types (Kd.R_types HO406.out BK410.out (by decide)) BK411.out (by decide)) (fun _ hk => hk.1.2) (.int .i64 t402)) (fun _ hk => hk.1.2) (.int .i64 t403)) (fun _ hk => hk.1.2) (.slice Ao18 t404.length co18)) (fun _ hk => hk.2) (.slice Ao19 t407.length co19)) (fun _ h_ => h_.1)) (fun _ h_ => h_.1))) (Kd.R_base ho0) hb); have n1_ := Aside0.mk (Kd.R_elder' (by (with_reducible repeat (first | apply Kd.R_alloc | apply Kd.R_drewN | apply Kd.R_drew)); exact (Kd.R_mono (Kd.R_mono (Kd.R_far (p := ⟨gb411, 0, none⟩) (Kd.R_far (p := ⟨gb410, 2, none⟩) (Kd.R_far (p := ⟨gb410, 1, none⟩) (Kd.R_far (p := ⟨gb410, 0, none⟩) (Kd.R_types (Kd.R_types HO409.out BK410.out (by decide)) BK411.out (by decide)) (fun _ hk => hk.1.2) (.int .i64 t402)) (fun _ hk => hk.1.2) (.int .i64 t403)) (fun _ hk => hk.1.2) (.slice Ao18 t404.length co18)) (fun _ hk => hk.2) (.slice Ao19 t407.length co19)) (fun _ h_ => h_.1)) (fun _ h_ => h_.1))) (Kd.R_base ho0) hb); have n2_ := Aside0.mk (Kd.R_lower (Kd.R_new' (Kd.R_new' ho0 (Kd.R_lt (by (with_reducible repeat (first | apply Kd.R_alloc | apply Kd.R_drewN | apply Kd.R_drew)); exact (Kd.R_mono (Kd.R_mono (Kd.R_far (p := ⟨gb411, 0, none⟩) (Kd.R_far (p := ⟨gb410, 2, none⟩) (Kd.R_far (p := ⟨gb410, 1, none⟩) (Kd.R_far (p := ⟨gb410, 0, none⟩) (Kd.R_types (Kd.R_types HO406.out BK410.out (by decide)) BK411.out (by decide)) (fun _ hk => hk.1.2) (.int .i64 t402)) (fun _ hk => hk.1.2) (.int .i64 t403)) (fun _ hk => hk.1.2) (.slice Ao18 t404.length co18)) (fun _ hk => hk.2) (.slice Ao19 t407.length co19)) (fun _ h_ => h_.1)) (fun _ h_ => h_.1))))) (Kd.R_lt (by (with_reducible repeat (first | apply Kd.R_alloc | apply Kd.R_drewN | apply Kd.R_drew)); exact (Kd.R_mono (Kd.R_mono (Kd.R_far (p := ⟨gb411, 0, none⟩) (Kd.R_far (p := ⟨gb410, 2, none⟩) (Kd.R_far (p := ⟨gb410, 1, none⟩) (Kd.R_far (p := ⟨gb410, 0, none⟩) (Kd.R_types (Kd.R_types HO409.out BK410.out (by decide)) BK411.out (by decide)) (fun _ hk => hk.1.2) (.int .i64 t402)) (fun _ hk => hk.1.2) (.int .i64 t403)) (fun _ hk => hk.1.2) (.slice Ao18 t404.length co18)) (fun _ hk => hk.2) (.slice Ao19 t407.length co19)) (fun _ h_ => h_.1)) (fun _ h_ => h_.1))))) (below_size (by repeat (first | (with_reducible first | exact HB.out | apply below_alloc | apply pw_below_drewN | apply below_drew1 | refine below_set ?_ GE410.out | refine below_set ?_ GE411.out) | exact HB.out)))); have n3_ := Aside0.mk (blk_below (g := gb410) (o := .cells #[.int .i64 t402, .int .i64 t403, .slice Ao18 t404.length co18] 31 (0, 0)) (by (with_reducible repeat (first | refine blk_drewN ?_ _ | refine blk_drew ?_ | refine blk_alloc ?_ _)); refine blk_far ?_ NB410_411.out _; (with_reducible repeat (first | refine blk_drewN ?_ _ | refine blk_drew ?_ | refine blk_alloc ?_ _)); refine blk_put (cs := #[.int .i64 t402, .int .i64 t403, .slice none 0 0]) ?_ 2 _ rfl; (with_reducible repeat (first | refine blk_drewN ?_ _ | refine blk_drew ?_ | refine blk_alloc ?_ _)); refine blk_put (cs := #[.int .i64 t402, .int .i64 0, .slice none 0 0]) ?_ 1 _ rfl; (with_reducible repeat (first | refine blk_drewN ?_ _ | refine blk_drew ?_ | refine blk_alloc ?_ _)); refine blk_put (cs := #[.int .i64 0, .int .i64 0, .slice none 0 0]) ?_ 0 _ rfl; (with_reducible repeat (first | refine blk_drewN ?_ _ | refine blk_drew ?_ | refine blk_alloc ?_ _)); exact BK410.out) hb); have n4_ := Aside0.mk (blk_below (g := gb411) (o := .cells #[.slice Ao19 t407.length co19] 40 (0, 0)) (by (with_reducible repeat (first | refine blk_drewN ?_ _ | refine blk_drew ?_ | refine blk_alloc ?_ _)); refine blk_put (cs := #[.slice none 0 0]) ?_ 0 _ rfl; (with_reducible repeat (first | refine blk_drewN ?_ _ | refine blk_drew ?_ | refine blk_alloc ?_ _)); refine blk_far ?_ NB411_410.out _; (with_reducible repeat (first | refine blk_drewN ?_ _ | refine blk_drew ?_ | refine blk_alloc ?_ _)); refine blk_far ?_ NB411_410.out _; (with_reducible repeat (first | refine blk_drewN ?_ _ | refine blk_drew ?_ | refine blk_alloc ?_ _)); refine blk_far ?_ NB411_410.out _; (with_reducible repeat (first | refine blk_drewN ?_ _ | refine blk_drew ?_ | refine blk_alloc ?_ _)); exact BK411.out) hb); have n5_ := Aside0.mk (below_step (by repeat (first | (with_reducible first | exact HB.out | apply below_alloc | apply pw_below_drewN | apply below_drew1 | refine below_set ?_ GE410.out | refine below_set ?_ GE411.out) | exact HB.out)) hb); clear HO406; clear HO409; clear BK410; clear BK411; clear HB; have HO406 := n0_; have HO409 := n1_; have HO414 := n2_; have BK410 := n3_; have BK411 := n4_; have HB := n5_; clear n0_ n1_ n2_ n3_ n4_ n5_; (try clear hb); (try clear hb2); (try clear hk); (try clear hi); (try clear ho0); have hcz22_0 : w21.cell? ⟨gb410, 0, none⟩ = some (.int .i64 t402) := (blk_cell BK410.out 0).trans rfl; have hcz22_1 : w21.cell? ⟨gb410, 1, none⟩ = some (.int .i64 t403) := (blk_cell BK410.out 1).trans rfl; have hcz22_2 : w21.cell? ⟨gb410, 2, none⟩ = some (.slice Ao18 t404.length co18) := (blk_cell BK410.out 2).trans rfl; have hfz22_0 := blk_frozen BK410.out 0; have hfz22_1 := blk_frozen BK410.out 1; have hfz22_2 := blk_frozen BK410.out 2; obtain ⟨Ao23, co23, eo23⟩ := Kd.R_slice HO414.out; subst eo23; have p415 : 0 ≤ (0 : Int) := (by omega); have q415 : 0 < (t412.length : Int) := of_decide_eq_true (by first | (with_reducible assumption) | assumption); obtain ⟨ad415, e415, hx415_0⟩ := Kd.at_int (Kd.R_reads' HO414.out).2.2 0 p415 q415; cases e415; have qi415 : (0 < t412.length) = True := eq_true (by omega); (try rw [show ((0 : Int)).toNat = 0 from rfl] at hx415_0); (try rw [Addr.add_zero'] at hx415_0); replace p415 := eq_true p415; replace q415 := eq_true q415; have p416 : 0 ≤ (1 : Int) := (by omega); have q416 : 1 < (t412.length : Int) := of_decide_eq_true (by first | (with_reducible assumption) | assumption); obtain ⟨ad416, e416, hx416_0⟩ := Kd.at_int (Kd.R_reads' HO414.out).2.2 1 p416 q416; obtain rfl : ad415 = ad416 := (by injection e416); (try simp only [show (1 : Int).toNat = 1 from rfl, Nat.reduceMul, Nat.reduceEqDiff, Go.Addr.add, ↓reduceIte] at hx416_0); have qi416 : (1 < t412.length) = True := eq_true (by omega); (try rw [show ((1 : Int)).toNat = 1 from rfl] at hx416_0); replace p416 := eq_true p416; replace q416 := eq_true q416; have hcz24_0 : w21.cell? ⟨gb411, 0, none⟩ = some (.slice Ao19 t407.length co19) := (blk_cell BK411.out 0).trans rfl; have hfz24_0 := blk_frozen BK411.out 0) | ((with_reducible refine gate_callee (f := 21) rfl ?_); refine goesL_ (some 41) rfl rfl Try.func21 (by kernel_rfl) rfl #[.agg #[.int .i64 t402, .int .i64 t403, .slice Ao18 t404.length co18], .agg #[.slice Ao19 t407.length co19], .int .i64 (Int.tmod (rd t412 0) (wrap64 (t402 * t403))), .int .i64 (Int.tmod (rd t412 1) (wrap64 (t402 * t403)))] rfl (by (try simp only [List.map_toArray, List.map_cons, List.map_nil]); first | done | rfl | (simp only [List.length_drop, List.length_take]; rfl)) ?_; (with_reducible refine (impl_WalkTable.calls k t402 t403 _ _ t404 _ _ t407 (Int.tmod (rd t412 0) (wrap64 (t402 * t403))) (Int.tmod (rd t412 1) (wrap64 (t402 * t403))) t417 _ ?side1 ?side2 ?side3 ?side4 A9.out).mono ?_); (case side1 => repeat (first | exact (Kd.R_reads' HO406.out).2.2 | (with_reducible refine Kd.C_alloc ?_ _) | (with_reducible refine Kd.C_drewN ?_ _) | (with_reducible refine Kd.C_drew ?_))); (case side2 => exact (Kd.R_reads' HO406.out).2.1); (case side3 => repeat (first | exact (Kd.R_reads' HO409.out).2.2 | (with_reducible refine Kd.C_alloc ?_ _) | (with_reducible refine Kd.C_drewN ?_ _) | (with_reducible refine Kd.C_drew ?_))); (case side4 => exact (Kd.R_reads' HO409.out).2.1); rintro e w25 ⟨v418, rfl, ho0, hb⟩; refine ⟨_, rfl, ?_⟩; have n0_ := Aside0.mk (Kd.R_elder' (by (with_reducible repeat (first | apply Kd.R_alloc | apply Kd.R_drewN | apply Kd.R_drew)); exact HO406.out) (Kd.R_base ho0) hb); have n1_ := Aside0.mk (Kd.R_elder' (by (with_reducible repeat (first | apply Kd.R_alloc | apply Kd.R_drewN | apply Kd.R_drew)); exact HO409.out) (Kd.R_base ho0) hb); have n2_ := Aside0.mk (Kd.R_elder' (by (with_reducible repeat (first | apply Kd.R_alloc | apply Kd.R_drewN | apply Kd.R_drew)); exact HO414.out) (Kd.R_base ho0) hb); have n3_ := Aside0.mk (Kd.R_lower (Kd.R_new' (Kd.R_new' (Kd.R_new' ho0 (Kd.R_lt (by (with_reducible repeat (first | apply Kd.R_alloc | apply Kd.R_drewN | apply Kd.R_drew)); exact HO406.out))) (Kd.R_lt (by (with_reducible repeat (first | apply Kd.R_alloc | apply Kd.R_drewN | apply Kd.R_drew)); exact HO409.out))) (Kd.R_lt (by (with_reducible repeat (first | apply Kd.R_alloc | apply Kd.R_drewN | apply Kd.R_drew)); exact HO414.out))) (below_size (by repeat (first | (with_reducible first | exact HB.out | apply below_alloc | apply pw_below_drewN | apply below_drew1 | refine below_set ?_ GE410.out | refine below_set ?_ GE411.out) | exact HB.out)))); have n4_ := Aside0.mk (blk_below (g := gb410) (o := .cells #[.int .i64 t402, .int .i64 t403, .slice Ao18 t404.length co18] 31 (0, 0)) (by (with_reducible repeat (first | refine blk_drewN ?_ _ | refine blk_drew ?_ | refine blk_alloc ?_ _)); exact BK410.out) hb); have n5_ := Aside0.mk (blk_below (g := gb411) (o := .cells #[.slice Ao19 t407.length co19] 40 (0, 0)) (by (with_reducible repeat (first | refine blk_drewN ?_ _ | refine blk_drew ?_ | refine blk_alloc ?_ _)); exact BK411.out) hb); have n6_ := Aside0.mk (below_step (by repeat (first | (with_reducible first | exact HB.out | apply below_alloc | apply pw_below_drewN | apply below_drew1 | refine below_set ?_ GE410.out | refine below_set ?_ GE411.out) | exact HB.out)) hb); clear HO406; clear HO409; clear HO414; clear BK410; clear BK411; clear HB; have HO406 := n0_; have HO409 := n1_; have HO414 := n2_; have HO419 := n3_; have BK410 := n4_; have BK411 := n5_; have HB := n6_; clear n0_ n1_ n2_ n3_ n4_ n5_ n6_; (try clear hb); (try clear hb2); (try clear hk); (try clear hi); (try clear ho0); obtain ⟨Ao26, co26, eo26⟩ := Kd.R_slice HO419.out; subst eo26; have hcz27_0 : w25.cell? ⟨gb410, 0, none⟩ = some (.int .i64 t402) := (blk_cell BK410.out 0).trans rfl; have hcz27_1 : w25.cell? ⟨gb410, 1, none⟩ = some (.int .i64 t403) := (blk_cell BK410.out 1).trans rfl; have hcz27_2 : w25.cell? ⟨gb410, 2, none⟩ = some (.slice Ao18 t404.length co18) := (blk_cell BK410.out 2).trans rfl; have hfz27_0 := blk_frozen BK410.out 0; have hfz27_1 := blk_frozen BK410.out 1; have hfz27_2 := blk_frozen BK410.out 2; have hcz28_0 : w25.cell? ⟨gb411, 0, none⟩ = some (.slice Ao19 t407.length co19) := (blk_cell BK411.out 0).trans rfl; have hfz28_0 := blk_frozen BK411.out 0) | (go_at_call 22; (with_reducible refine (impl_PortAt.calls k t402 t403 _ _ t404 _ _ t407 (Int.tmod (rd t412 0) (wrap64 (t402 * t403))) (Int.tmod (rd t412 0) (wrap64 (t402 * t403))) t420 _ ?side1 ?side2 ?side3 ?side4 A12.out).mono ?_); (case side1 => repeat (first | exact (Kd.R_reads' HO406.out).2.2 | (with_reducible refine Kd.C_alloc ?_ _) | (with_reducible refine Kd.C_drewN ?_ _) | (with_reducible refine Kd.C_drew ?_))); (case side2 => exact (Kd.R_reads' HO406.out).2.1); (case side3 => repeat (first | exact (Kd.R_reads' HO409.out).2.2 | (with_reducible refine Kd.C_alloc ?_ _) | (with_reducible refine Kd.C_drewN ?_ _) | (with_reducible refine Kd.C_drew ?_))); (case side4 => exact (Kd.R_reads' HO409.out).2.1); rintro e w29 ⟨rfl, hb⟩; have n0_ := Aside0.mk (Kd.R_below (by (with_reducible repeat (first | apply Kd.R_alloc | apply Kd.R_drewN | apply Kd.R_drew)); exact HO406.out) hb); have n1_ := Aside0.mk (Kd.R_below (by (with_reducible repeat (first | apply Kd.R_alloc | apply Kd.R_drewN | apply Kd.R_drew)); exact HO409.out) hb); have n2_ := Aside0.mk (Kd.R_below (by (with_reducible repeat (first | apply Kd.R_alloc | apply Kd.R_drewN | apply Kd.R_drew)); exact HO414.out) hb); have n3_ := Aside0.mk (Kd.R_below (by (with_reducible repeat (first | apply Kd.R_alloc | apply Kd.R_drewN | apply Kd.R_drew)); exact HO419.out) hb); have n4_ := Aside0.mk (blk_below (g := gb410) (o := .cells #[.int .i64 t402, .int .i64 t403, .slice Ao18 t404.length co18] 31 (0, 0)) (by (with_reducible repeat (first | refine blk_drewN ?_ _ | refine blk_drew ?_ | refine blk_alloc ?_ _)); exact BK410.out) hb); have n5_ := Aside0.mk (blk_below (g := gb411) (o := .cells #[.slice Ao19 t407.length co19] 40 (0, 0)) (by (with_reducible repeat (first | refine blk_drewN ?_ _ | refine blk_drew ?_ | refine blk_alloc ?_ _)); exact BK411.out) hb); have n6_ := Aside0.mk (below_step (by repeat (first | (with_reducible first | exact HB.out | apply below_alloc | apply pw_below_drewN | apply below_drew1 | refine below_set ?_ GE410.out | refine below_set ?_ GE411.out) | exact HB.out)) hb); clear HO406; clear HO409; clear HO414; clear HO419; clear BK410; clear BK411; clear HB; have HO406 := n0_; have HO409 := n1_; have HO414 := n2_; have HO419 := n3_; have BK410 := n4_; have BK411 := n5_; have HB := n6_; clear n0_ n1_ n2_ n3_ n4_ n5_ n6_; (try clear hb); (try clear hb2); (try clear hk); (try clear hi)))
              go_ret
              exact ⟨by first | rfl | (simp [errW_none, errW_some] <;> rfl) | (simp [*, errW_none, errW_some] <;> rfl), by repeat (first | (with_reducible first | exact HB.out | apply below_alloc | apply pw_below_drewN | apply below_drew1 | refine below_set ?_ GE410.out | refine below_set ?_ GE411.out) | exact HB.out)⟩
            · rw [if_neg c11] at H
              have c11b0 : ((t417.length : Int) == 0) = false := beq_eq_false_iff_ne.mpr c11
              have c11b1 : ((t417.length : Int) != 0) = true := bne_iff_ne.mpr c11
              have c11b2 : ¬ (t417 = []) := fun h_ => c11 (by rw [h_]; rfl)
              obtain rfl := Option.some.inj H
              exact absurd HRT.out (by simp)
          · rw [if_neg c10] at H
            have c10b0 : ((Int.tmod (rd t412 0) (wrap64 (t402 * t403))) == (Int.tmod (rd t412 1) (wrap64 (t402 * t403)))) = false := beq_eq_false_iff_ne.mpr c10
            have c10b1 : ((Int.tmod (rd t412 0) (wrap64 (t402 * t403))) != (Int.tmod (rd t412 1) (wrap64 (t402 * t403)))) = true := bne_iff_ne.mpr c10
            replace H := Option.bind_eq_some_iff.mp H
            obtain ⟨t421, A300, H⟩ := H
            replace H : (if (t417.length : Int) = 0 then (laws_FnTableWalks.j0 k (Int.tmod (rd t412 0) (wrap64 (t402 * t403))) (Int.tmod (rd t412 1) (wrap64 (t402 * t403))) t417 true t402 t403 t404 t407) else (if (t421.length : Int) = (wrap64 ((t417.length : Int) + 1)) then (if 0 < (t421.length : Int) then (if (rd t421 0) = (Int.tmod (rd t412 0) (wrap64 (t402 * t403))) then (if 0 ≤ (wrap64 ((t421.length : Int) - 1)) then (if (wrap64 ((t421.length : Int) - 1)) < (t421.length : Int) then (if (rd t421 (wrap64 ((t421.length : Int) - 1))) = (Int.tmod (rd t412 1) (wrap64 (t402 * t403))) then ((impl_Distance.f k t402 t403 (Int.tmod (rd t412 0) (wrap64 (t402 * t403))) (Int.tmod (rd t412 1) (wrap64 (t402 * t403)))).bind fun t426 => (laws_FnTableWalks.j0 k (Int.tmod (rd t412 0) (wrap64 (t402 * t403))) (Int.tmod (rd t412 1) (wrap64 (t402 * t403))) t417 (decide ((t417.length : Int) < t426)) t402 t403 t404 t407)) else (laws_FnTableWalks.j0 k (Int.tmod (rd t412 0) (wrap64 (t402 * t403))) (Int.tmod (rd t412 1) (wrap64 (t402 * t403))) t417 true t402 t403 t404 t407)) else (none)) else (none)) else (laws_FnTableWalks.j0 k (Int.tmod (rd t412 0) (wrap64 (t402 * t403))) (Int.tmod (rd t412 1) (wrap64 (t402 * t403))) t417 true t402 t403 t404 t407)) else (none)) else (laws_FnTableWalks.j0 k (Int.tmod (rd t412 0) (wrap64 (t402 * t403))) (Int.tmod (rd t412 1) (wrap64 (t402 * t403))) t417 true t402 t403 t404 t407))) = some r := H
            have A30 := Aside0.mk A300
            clear A300
            have HC31 := Aside0.mk H
            clear H
            go_enter Try.func4, Try.ntmps4
            go_upto_region 12 with (first | ((with_reducible refine gate_callee (f := 18) rfl ?_); refine goesL_ (some 12) rfl rfl Try.func18 (by kernel_rfl) rfl #[.slice A0 l0.length c0] rfl (by (try simp only [List.map_toArray, List.map_cons, List.map_nil]); first | done | rfl | (simp only [List.length_drop, List.length_take]; rfl)) ?_; (with_reducible refine (laws_big.calls _ _ l0 false _ ?side1 ?side2 A2.out).mono ?_); (case side1 => repeat (first | exact HR0.out | (with_reducible refine Kd.C_alloc ?_ _) | (with_reducible refine Kd.C_drewN ?_ _) | (with_reducible refine Kd.C_drew ?_))); (case side2 => exact HC0.out); rintro e w' ⟨rfl, ⟨nd, rfl⟩⟩; refine ⟨_, rfl, ?_⟩) | ((with_reducible refine gate_callee (f := 19) rfl ?_); refine goesL_ (some 15) rfl rfl Try.func19 (by kernel_rfl) rfl #[.slice A0 l0.length c0] rfl (by (try simp only [List.map_toArray, List.map_cons, List.map_nil]); first | done | rfl | (simp only [List.length_drop, List.length_take]; rfl)) ?_; (with_reducible refine (spec_DrawTable.calls k _ _ l0 t402 t403 t404 t407 _ ?side1 ?side2 A4.out).mono ?_); (case side1 => repeat (first | exact HR0.out | (with_reducible refine Kd.C_alloc ?_ _) | (with_reducible refine Kd.C_drewN ?_ _) | (with_reducible refine Kd.C_drew ?_))); (case side2 => exact HC0.out); rintro e w32 ⟨v405, v408, rfl, ho0, ho1, hb⟩; refine ⟨_, rfl, ?_⟩; have n0_ := Aside0.mk (Kd.R_lower ho0 (below_size (by repeat (first | (with_reducible first | exact HB.out | apply below_alloc | apply pw_below_drewN | apply below_drew1) | exact HB.out)))); have n1_ := Aside0.mk (Kd.R_lower ho1 (below_size (by repeat (first | (with_reducible first | exact HB.out | apply below_alloc | apply pw_below_drewN | apply below_drew1) | exact HB.out)))); have n2_ := Aside0.mk (below_step (by repeat (first | (with_reducible first | exact HB.out | apply below_alloc | apply pw_below_drewN | apply below_drew1) | exact HB.out)) hb); clear HB; have HO406 := n0_; have HO409 := n1_; have HB := n2_; clear n0_ n1_ n2_; (try clear hb); (try clear hb2); (try clear hk); (try clear hi); (try clear ho0); (try clear ho1)) | ((with_reducible refine gate_dst (N := 3) rfl ?_); (try (refine gate_guard (by rfl) ?_; dsimp only)); refine box_event ?hg (N := 3) ?hd (cs := #[.int .i64 0, .int .i64 0, .slice none 0 0]) (t := 31) ?hr ?_; (case hd => rfl); (case hg => rfl); (case hr => first | (go_simp; done) | (go_simp; rfl)); intro gb410 hg w33 hbox hb; have n0_ := Aside0.mk (Kd.R_below (by (with_reducible repeat (first | apply Kd.R_alloc | apply Kd.R_drewN | apply Kd.R_drew)); exact HO406.out) hb); have n1_ := Aside0.mk (Kd.R_below (by (with_reducible repeat (first | apply Kd.R_alloc | apply Kd.R_drewN | apply Kd.R_drew)); exact HO409.out) hb); have n2_ := Aside0.mk (below_step (by repeat (first | (with_reducible first | exact HB.out | apply below_alloc | apply pw_below_drewN | apply below_drew1) | exact HB.out)) hb); have n3_ := Aside0.mk (hbox); have n4_ := Aside0.mk ((by rw [hg]; exact (below_size (by repeat (first | (with_reducible first | exact HB.out | apply below_alloc | apply pw_below_drewN | apply below_drew1) | exact HB.out))) : w.heap.size ≤ gb410)); have n5_ := Aside0.mk ((by rw [hg]; exact (below_size (by repeat (first | (with_reducible first | exact HB.out | apply below_alloc | apply pw_below_drewN | apply below_drew1) | exact HB.out))) : w.heap.size ≤ gb410)); clear HO406; clear HO409; clear HB; have HO406 := n0_; have HO409 := n1_; have HB := n2_; have BK410 := n3_; have GW410 := n4_; have GE410 := n5_; clear n0_ n1_ n2_ n3_ n4_ n5_; clear hb hbox hg) | ((with_reducible refine gate_dst (N := 4) rfl ?_); (try (refine gate_guard (by rfl) ?_; dsimp only)); refine box_event ?hg (N := 4) ?hd (cs := #[.slice none 0 0]) (t := 40) ?hr ?_; (case hd => rfl); (case hg => rfl); (case hr => first | (go_simp; done) | (go_simp; rfl)); intro gb411 hg w34 hbox hb; have n0_ := Aside0.mk (Kd.R_below (by (with_reducible repeat (first | apply Kd.R_alloc | apply Kd.R_drewN | apply Kd.R_drew)); exact HO406.out) hb); have n1_ := Aside0.mk (Kd.R_below (by (with_reducible repeat (first | apply Kd.R_alloc | apply Kd.R_drewN | apply Kd.R_drew)); exact HO409.out) hb); have n2_ := Aside0.mk (blk_below (g := gb410) (o := .cells #[.int .i64 0, .int .i64 0, .slice none 0 0] 31 (0, 0)) (by (with_reducible repeat (first | refine blk_drewN ?_ _ | refine blk_drew ?_ | refine blk_alloc ?_ _)); exact BK410.out) hb); have n3_ := Aside0.mk (below_step (by repeat (first | (with_reducible first | exact HB.out | apply below_alloc | apply pw_below_drewN | apply below_drew1 | refine below_set ?_ GE410.out) | exact HB.out)) hb); have n4_ := Aside0.mk (hbox); have n5_ := Aside0.mk ((by rw [hg]; exact (below_size (by repeat (first | (with_reducible first | exact HB.out | apply below_alloc | apply pw_below_drewN | apply below_drew1 | refine below_set ?_ GE410.out) | exact HB.out))) : w.heap.size ≤ gb411)); have n6_ := Aside0.mk ((by rw [hg]; exact (below_size (by repeat (first | (with_reducible first | exact HB.out | apply below_alloc | apply pw_below_drewN | apply below_drew1 | refine below_set ?_ GE410.out) | exact HB.out))) : w.heap.size ≤ gb411)); have n7_ := Aside0.mk ((by rw [hg]; exact Nat.ne_of_lt (blk_lt (g := gb410) (o := .cells #[.int .i64 0, .int .i64 0, .slice none 0 0] 31 (0, 0)) (by (with_reducible repeat (first | refine blk_drewN ?_ _ | refine blk_drew ?_ | refine blk_alloc ?_ _)); exact BK410.out)) : gb410 ≠ gb411)); have n8_ := Aside0.mk ((by rw [hg]; exact Nat.ne_of_gt (blk_lt (g := gb410) (o := .cells #[.int .i64 0, .int .i64 0, .slice none 0 0] 31 (0, 0)) (by (with_reducible repeat (first | refine blk_drewN ?_ _ | refine blk_drew ?_ | refine blk_alloc ?_ _)); exact BK410.out)) : gb411 ≠ gb410)); clear HO406; clear HO409; clear BK410; clear HB; have HO406 := n0_; have HO409 := n1_; have BK410 := n2_; have HB := n3_; have BK411 := n4_; have GW411 := n5_; have GE411 := n6_; have NB410_411 := n7_; have NB411_410 := n8_; clear n0_ n1_ n2_ n3_ n4_ n5_ n6_ n7_ n8_; clear hb hbox hg; have hnb35 := NB410_411.out; have hnc35 := NB411_410.out; have hcz36_0 : w34.cell? ⟨gb410, 0, none⟩ = some (.int .i64 0) := (blk_cell BK410.out 0).trans rfl; have hcz36_1 : w34.cell? ⟨gb410, 1, none⟩ = some (.int .i64 0) := (blk_cell BK410.out 1).trans rfl; have hcz36_2 : w34.cell? ⟨gb410, 2, none⟩ = some (.slice none 0 0) := (blk_cell BK410.out 2).trans rfl; have hfz36_0 := blk_frozen BK410.out 0; have hfz36_1 := blk_frozen BK410.out 1; have hfz36_2 := blk_frozen BK410.out 2; obtain ⟨Ao37, co37, eo37⟩ := Kd.R_slice HO406.out; subst eo37; obtain ⟨Ao38, co38, eo38⟩ := Kd.R_slice HO409.out; subst eo38; have hcz39_0 : w34.cell? ⟨gb411, 0, none⟩ = some (.slice none 0 0) := (blk_cell BK411.out 0).trans rfl; have hfz39_0 := blk_frozen BK411.out 0) | ((with_reducible refine gate_callee (f := 20) rfl ?_); refine goesL_ (some 19) rfl rfl Try.func20 (by kernel_rfl) rfl #[.slice A0 l0.length c0] rfl (by (try simp only [List.map_toArray, List.map_cons, List.map_nil]); first | done | rfl | (simp only [List.length_drop, List.length_take]; rfl)) ?_; (with_reducible refine (spec_DrawPlaces.calls k _ _ l0 t412 _ ?side1 ?side2 A5.out).mono ?_); (case side1 => exact Kd.C_below HR0.out (by repeat (first | (with_reducible first | exact HB.out | apply below_alloc | apply pw_below_drewN | apply below_drew1 | refine below_set ?_ GE410.out | refine below_set ?_ GE411.out) | exact HB.out))); (case side2 => exact HC0.out); rintro e w40 ⟨v413, rfl, ho0, hb⟩; refine ⟨_, rfl, ?_⟩; have n0_ := Aside0.mk (Kd.R_elder' (by (with_reducible repeat (first | apply Kd.R_alloc | apply Kd.R_drewN | apply Kd.R_drew)); exact (Kd.R_mono (Kd.R_mono (Kd.R_far (p := ⟨gb411, 0, none⟩) (Kd.R_far (p := ⟨gb410, 2, none⟩) (Kd.R_far (p := ⟨gb410, 1, none⟩) (Kd.R_far (p := ⟨gb410, 0, none⟩) (Kd.R_types (Kd.R_types HO406.out BK410.out (by decide)) BK411.out (by decide)) (fun _ hk => hk.1.2) (.int .i64 t402)) (fun _ hk => hk.1.2) (.int .i64 t403)) (fun _ hk => hk.1.2) (.slice Ao37 t404.length co37)) (fun _ hk => hk.2) (.slice Ao38 t407.length co38)) (fun _ h_ => h_.1)) (fun _ h_ => h_.1))) (Kd.R_base ho0) hb); have n1_ := Aside0.mk (Kd.R_elder' (by (with_reducible repeat (first | apply Kd.R_alloc | apply Kd.R_drewN | apply Kd.R_drew)); exact (Kd.R_mono (Kd.R_mono (Kd.R_far (p := ⟨gb411, 0, none⟩) (Kd.R_far (p := ⟨gb410, 2, none⟩) (Kd.R_far (p := ⟨gb410, 1, none⟩) (Kd.R_far (p := ⟨gb410, 0, none⟩) (Kd.R_types (Kd.R_types HO409.out BK410.out (by decide)) BK411.out (by decide)) (fun _ hk => hk.1.2) (.int .i64 t402)) (fun _ hk => hk.1.2) (.int .i64 t403)) (fun _ hk => hk.1.2) (.slice Ao37 t404.length co37)) (fun _ hk => hk.2) (.slice Ao38 t407.length co38)) (fun _ h_ => h_.1)) (fun _ h_ => h_.1))) (Kd.R_base ho0) hb); have n2_ := Aside0.mk (Kd.R_lower (Kd.R_new' (Kd.R_new' ho0 (Kd.R_lt (by (with_reducible repeat (first | apply Kd.R_alloc | apply Kd.R_drewN | apply Kd.R_drew)); exact (Kd.R_mono (Kd.R_mono (Kd.R_far (p := ⟨gb411, 0, none⟩) (Kd.R_far (p := ⟨gb410, 2, none⟩) (Kd.R_far (p := ⟨gb410, 1, none⟩) (Kd.R_far (p := ⟨gb410, 0, none⟩) (Kd.R_types (Kd.R_types HO406.out BK410.out (by decide)) BK411.out (by decide)) (fun _ hk => hk.1.2) (.int .i64 t402)) (fun _ hk => hk.1.2) (.int .i64 t403)) (fun _ hk => hk.1.2) (.slice Ao37 t404.length co37)) (fun _ hk => hk.2) (.slice Ao38 t407.length co38)) (fun _ h_ => h_.1)) (fun _ h_ => h_.1))))) (Kd.R_lt (by (with_reducible repeat (first | apply Kd.R_alloc | apply Kd.R_drewN | apply Kd.R_drew)); exact (Kd.R_mono (Kd.R_mono (Kd.R_far (p := ⟨gb411, 0, none⟩) (Kd.R_far (p := ⟨gb410, 2, none⟩) (Kd.R_far (p := ⟨gb410, 1, none⟩) (Kd.R_far (p := ⟨gb410, 0, none⟩) (Kd.R_types (Kd.R_types HO409.out BK410.out (by decide)) BK411.out (by decide)) (fun _ hk => hk.1.2) (.int .i64 t402)) (fun _ hk => hk.1.2) (.int .i64 t403)) (fun _ hk => hk.1.2) (.slice Ao37 t404.length co37)) (fun _ hk => hk.2) (.slice Ao38 t407.length co38)) (fun _ h_ => h_.1)) (fun _ h_ => h_.1))))) (below_size (by repeat (first | (with_reducible first | exact HB.out | apply below_alloc | apply pw_below_drewN | apply below_drew1 | refine below_set ?_ GE410.out | refine below_set ?_ GE411.out) | exact HB.out)))); have n3_ := Aside0.mk (blk_below (g := gb410) (o := .cells #[.int .i64 t402, .int .i64 t403, .slice Ao37 t404.length co37] 31 (0, 0)) (by (with_reducible repeat (first | refine blk_drewN ?_ _ | refine blk_drew ?_ | refine blk_alloc ?_ _)); refine blk_far ?_ NB410_411.out _; (with_reducible repeat (first | refine blk_drewN ?_ _ | refine blk_drew ?_ | refine blk_alloc ?_ _)); refine blk_put (cs := #[.int .i64 t402, .int .i64 t403, .slice none 0 0]) ?_ 2 _ rfl; (with_reducible repeat (first | refine blk_drewN ?_ _ | refine blk_drew ?_ | refine blk_alloc ?_ _)); refine blk_put (cs := #[.int .i64 t402, .int .i64 0, .slice none 0 0]) ?_ 1 _ rfl; (with_reducible repeat (first | refine blk_drewN ?_ _ | refine blk_drew ?_ | refine blk_alloc ?_ _)); refine blk_put (cs := #[.int .i64 0, .int .i64 0, .slice none 0 0]) ?_ 0 _ rfl; (with_reducible repeat (first | refine blk_drewN ?_ _ | refine blk_drew ?_ | refine blk_alloc ?_ _)); exact BK410.out) hb); have n4_ := Aside0.mk (blk_below (g := gb411) (o := .cells #[.slice Ao38 t407.length co38] 40 (0, 0)) (by (with_reducible repeat (first | refine blk_drewN ?_ _ | refine blk_drew ?_ | refine blk_alloc ?_ _)); refine blk_put (cs := #[.slice none 0 0]) ?_ 0 _ rfl; (with_reducible repeat (first | refine blk_drewN ?_ _ | refine blk_drew ?_ | refine blk_alloc ?_ _)); refine blk_far ?_ NB411_410.out _; (with_reducible repeat (first | refine blk_drewN ?_ _ | refine blk_drew ?_ | refine blk_alloc ?_ _)); refine blk_far ?_ NB411_410.out _; (with_reducible repeat (first | refine blk_drewN ?_ _ | refine blk_drew ?_ | refine blk_alloc ?_ _)); refine blk_far ?_ NB411_410.out _; (with_reducible repeat (first | refine blk_drewN ?_ _ | refine blk_drew ?_ | refine blk_alloc ?_ _)); exact BK411.out) hb); have n5_ := Aside0.mk (below_step (by repeat (first | (with_reducible first | exact HB.out | apply below_alloc | apply pw_below_drewN | apply below_drew1 | refine below_set ?_ GE410.out | refine below_set ?_ GE411.out) | exact HB.out)) hb); clear HO406; clear HO409; clear BK410; clear BK411; clear HB; have HO406 := n0_; have HO409 := n1_; have HO414 := n2_; have BK410 := n3_; have BK411 := n4_; have HB := n5_; clear n0_ n1_ n2_ n3_ n4_ n5_; (try clear hb); (try clear hb2); (try clear hk); (try clear hi); (try clear ho0); have hcz41_0 : w40.cell? ⟨gb410, 0, none⟩ = some (.int .i64 t402) := (blk_cell BK410.out 0).trans rfl; have hcz41_1 : w40.cell? ⟨gb410, 1, none⟩ = some (.int .i64 t403) := (blk_cell BK410.out 1).trans rfl; have hcz41_2 : w40.cell? ⟨gb410, 2, none⟩ = some (.slice Ao37 t404.length co37) := (blk_cell BK410.out 2).trans rfl; have hfz41_0 := blk_frozen BK410.out 0; have hfz41_1 := blk_frozen BK410.out 1; have hfz41_2 := blk_frozen BK410.out 2; obtain ⟨Ao42, co42, eo42⟩ := Kd.R_slice HO414.out; subst eo42; have p415 : 0 ≤ (0 : Int) := (by omega); have q415 : 0 < (t412.length : Int) := of_decide_eq_true (by first | (with_reducible assumption) | assumption); obtain ⟨ad415, e415, hx415_0⟩ := Kd.at_int (Kd.R_reads' HO414.out).2.2 0 p415 q415; cases e415; have qi415 : (0 < t412.length) = True := eq_true (by omega); (try rw [show ((0 : Int)).toNat = 0 from rfl] at hx415_0); (try rw [Addr.add_zero'] at hx415_0); replace p415 := eq_true p415; replace q415 := eq_true q415; have p416 : 0 ≤ (1 : Int) := (by omega); have q416 : 1 < (t412.length : Int) := of_decide_eq_true (by first | (with_reducible assumption) | assumption); obtain ⟨ad416, e416, hx416_0⟩ := Kd.at_int (Kd.R_reads' HO414.out).2.2 1 p416 q416; obtain rfl : ad415 = ad416 := (by injection e416); (try simp only [show (1 : Int).toNat = 1 from rfl, Nat.reduceMul, Nat.reduceEqDiff, Go.Addr.add, ↓reduceIte] at hx416_0); have qi416 : (1 < t412.length) = True := eq_true (by omega); (try rw [show ((1 : Int)).toNat = 1 from rfl] at hx416_0); replace p416 := eq_true p416; replace q416 := eq_true q416; have hcz43_0 : w40.cell? ⟨gb411, 0, none⟩ = some (.slice Ao38 t407.length co38) := (blk_cell BK411.out 0).trans rfl; have hfz43_0 := blk_frozen BK411.out 0) | ((with_reducible refine gate_callee (f := 21) rfl ?_); refine goesL_ (some 41) rfl rfl Try.func21 (by kernel_rfl) rfl #[.agg #[.int .i64 t402, .int .i64 t403, .slice Ao37 t404.length co37], .agg #[.slice Ao38 t407.length co38], .int .i64 (Int.tmod (rd t412 0) (wrap64 (t402 * t403))), .int .i64 (Int.tmod (rd t412 1) (wrap64 (t402 * t403)))] rfl (by (try simp only [List.map_toArray, List.map_cons, List.map_nil]); first | done | rfl | (simp only [List.length_drop, List.length_take]; rfl)) ?_; (with_reducible refine (impl_WalkTable.calls k t402 t403 _ _ t404 _ _ t407 (Int.tmod (rd t412 0) (wrap64 (t402 * t403))) (Int.tmod (rd t412 1) (wrap64 (t402 * t403))) t417 _ ?side1 ?side2 ?side3 ?side4 A9.out).mono ?_); (case side1 => repeat (first | exact (Kd.R_reads' HO406.out).2.2 | (with_reducible refine Kd.C_alloc ?_ _) | (with_reducible refine Kd.C_drewN ?_ _) | (with_reducible refine Kd.C_drew ?_))); (case side2 => exact (Kd.R_reads' HO406.out).2.1); (case side3 => repeat (first | exact (Kd.R_reads' HO409.out).2.2 | (with_reducible refine Kd.C_alloc ?_ _) | (with_reducible refine Kd.C_drewN ?_ _) | (with_reducible refine Kd.C_drew ?_))); (case side4 => exact (Kd.R_reads' HO409.out).2.1); rintro e w44 ⟨v418, rfl, ho0, hb⟩; refine ⟨_, rfl, ?_⟩; have n0_ := Aside0.mk (Kd.R_elder' (by (with_reducible repeat (first | apply Kd.R_alloc | apply Kd.R_drewN | apply Kd.R_drew)); exact HO406.out) (Kd.R_base ho0) hb); have n1_ := Aside0.mk (Kd.R_elder' (by (with_reducible repeat (first | apply Kd.R_alloc | apply Kd.R_drewN | apply Kd.R_drew)); exact HO409.out) (Kd.R_base ho0) hb); have n2_ := Aside0.mk (Kd.R_elder' (by (with_reducible repeat (first | apply Kd.R_alloc | apply Kd.R_drewN | apply Kd.R_drew)); exact HO414.out) (Kd.R_base ho0) hb); have n3_ := Aside0.mk (Kd.R_lower (Kd.R_new' (Kd.R_new' (Kd.R_new' ho0 (Kd.R_lt (by (with_reducible repeat (first | apply Kd.R_alloc | apply Kd.R_drewN | apply Kd.R_drew)); exact HO406.out))) (Kd.R_lt (by (with_reducible repeat (first | apply Kd.R_alloc | apply Kd.R_drewN | apply Kd.R_drew)); exact HO409.out))) (Kd.R_lt (by (with_reducible repeat (first | apply Kd.R_alloc | apply Kd.R_drewN | apply Kd.R_drew)); exact HO414.out))) (below_size (by repeat (first | (with_reducible first | exact HB.out | apply below_alloc | apply pw_below_drewN | apply below_drew1 | refine below_set ?_ GE410.out | refine below_set ?_ GE411.out) | exact HB.out)))); have n4_ := Aside0.mk (blk_below (g := gb410) (o := .cells #[.int .i64 t402, .int .i64 t403, .slice Ao37 t404.length co37] 31 (0, 0)) (by (with_reducible repeat (first | refine blk_drewN ?_ _ | refine blk_drew ?_ | refine blk_alloc ?_ _)); exact BK410.out) hb); have n5_ := Aside0.mk (blk_below (g := gb411) (o := .cells #[.slice Ao38 t407.length co38] 40 (0, 0)) (by (with_reducible repeat (first | refine blk_drewN ?_ _ | refine blk_drew ?_ | refine blk_alloc ?_ _)); exact BK411.out) hb); have n6_ := Aside0.mk (below_step (by repeat (first | (with_reducible first | exact HB.out | apply below_alloc | apply pw_below_drewN | apply below_drew1 | refine below_set ?_ GE410.out | refine below_set ?_ GE411.out) | exact HB.out)) hb); clear HO406; clear HO409; clear HO414; clear BK410; clear BK411; clear HB; have HO406 := n0_; have HO409 := n1_; have HO414 := n2_; have HO419 := n3_; have BK410 := n4_; have BK411 := n5_; have HB := n6_; clear n0_ n1_ n2_ n3_ n4_ n5_ n6_; (try clear hb); (try clear hb2); (try clear hk); (try clear hi); (try clear ho0); have hcz45_0 : w44.cell? ⟨gb410, 0, none⟩ = some (.int .i64 t402) := (blk_cell BK410.out 0).trans rfl; have hcz45_1 : w44.cell? ⟨gb410, 1, none⟩ = some (.int .i64 t403) := (blk_cell BK410.out 1).trans rfl; have hcz45_2 : w44.cell? ⟨gb410, 2, none⟩ = some (.slice Ao37 t404.length co37) := (blk_cell BK410.out 2).trans rfl; have hfz45_0 := blk_frozen BK410.out 0; have hfz45_1 := blk_frozen BK410.out 1; have hfz45_2 := blk_frozen BK410.out 2; obtain ⟨Ao46, co46, eo46⟩ := Kd.R_slice HO419.out; subst eo46) | ((with_reducible refine gate_callee (f := 23) rfl ?_); refine goesL_ (some 58) rfl rfl Try.func23 (by kernel_rfl) rfl #[.agg #[.int .i64 t402, .int .i64 t403, .slice Ao37 t404.length co37], .slice Ao46 t417.length co46] rfl (by (try simp only [List.map_toArray, List.map_cons, List.map_nil]); first | done | rfl | (simp only [List.length_drop, List.length_take]; rfl)) ?_; (with_reducible refine (impl_RouteNodes.calls k t402 t403 _ _ t404 _ _ t417 t421 _ ?side1 ?side2 ?side3 ?side4 A30.out).mono ?_); (case side1 => repeat (first | exact (Kd.R_reads' HO406.out).2.2 | (with_reducible refine Kd.C_alloc ?_ _) | (with_reducible refine Kd.C_drewN ?_ _) | (with_reducible refine Kd.C_drew ?_))); (case side2 => exact (Kd.R_reads' HO406.out).2.1); (case side3 => repeat (first | exact (Kd.R_reads' HO419.out).2.2 | (with_reducible refine Kd.C_alloc ?_ _) | (with_reducible refine Kd.C_drewN ?_ _) | (with_reducible refine Kd.C_drew ?_))); (case side4 => exact (Kd.R_reads' HO419.out).2.1); rintro e w47 ⟨v422, rfl, ho0, hb⟩; refine ⟨_, rfl, ?_⟩; have n0_ := Aside0.mk (Kd.R_elder' (by (with_reducible repeat (first | apply Kd.R_alloc | apply Kd.R_drewN | apply Kd.R_drew)); exact HO406.out) (Kd.R_base ho0) hb); have n1_ := Aside0.mk (Kd.R_elder' (by (with_reducible repeat (first | apply Kd.R_alloc | apply Kd.R_drewN | apply Kd.R_drew)); exact HO409.out) (Kd.R_base ho0) hb); have n2_ := Aside0.mk (Kd.R_elder' (by (with_reducible repeat (first | apply Kd.R_alloc | apply Kd.R_drewN | apply Kd.R_drew)); exact HO414.out) (Kd.R_base ho0) hb); have n3_ := Aside0.mk (Kd.R_elder' (by (with_reducible repeat (first | apply Kd.R_alloc | apply Kd.R_drewN | apply Kd.R_drew)); exact HO419.out) (Kd.R_base ho0) hb); have n4_ := Aside0.mk (Kd.R_lower (Kd.R_new' (Kd.R_new' (Kd.R_new' (Kd.R_new' ho0 (Kd.R_lt (by (with_reducible repeat (first | apply Kd.R_alloc | apply Kd.R_drewN | apply Kd.R_drew)); exact HO406.out))) (Kd.R_lt (by (with_reducible repeat (first | apply Kd.R_alloc | apply Kd.R_drewN | apply Kd.R_drew)); exact HO409.out))) (Kd.R_lt (by (with_reducible repeat (first | apply Kd.R_alloc | apply Kd.R_drewN | apply Kd.R_drew)); exact HO414.out))) (Kd.R_lt (by (with_reducible repeat (first | apply Kd.R_alloc | apply Kd.R_drewN | apply Kd.R_drew)); exact HO419.out))) (below_size (by repeat (first | (with_reducible first | exact HB.out | apply below_alloc | apply pw_below_drewN | apply below_drew1 | refine below_set ?_ GE410.out | refine below_set ?_ GE411.out) | exact HB.out)))); have n5_ := Aside0.mk (blk_below (g := gb410) (o := .cells #[.int .i64 t402, .int .i64 t403, .slice Ao37 t404.length co37] 31 (0, 0)) (by (with_reducible repeat (first | refine blk_drewN ?_ _ | refine blk_drew ?_ | refine blk_alloc ?_ _)); exact BK410.out) hb); have n6_ := Aside0.mk (blk_below (g := gb411) (o := .cells #[.slice Ao38 t407.length co38] 40 (0, 0)) (by (with_reducible repeat (first | refine blk_drewN ?_ _ | refine blk_drew ?_ | refine blk_alloc ?_ _)); exact BK411.out) hb); have n7_ := Aside0.mk (below_step (by repeat (first | (with_reducible first | exact HB.out | apply below_alloc | apply pw_below_drewN | apply below_drew1 | refine below_set ?_ GE410.out | refine below_set ?_ GE411.out) | exact HB.out)) hb); clear HO406; clear HO409; clear HO414; clear HO419; clear BK410; clear BK411; clear HB; have HO406 := n0_; have HO409 := n1_; have HO414 := n2_; have HO419 := n3_; have HO423 := n4_; have BK410 := n5_; have BK411 := n6_; have HB := n7_; clear n0_ n1_ n2_ n3_ n4_ n5_ n6_ n7_; (try clear hb); (try clear hb2); (try clear hk); (try clear hi); (try clear ho0)))
            (try simp only [Act.put, List.setIfInBounds_toArray, List.set_cons_zero, List.set_cons_succ])
            go_cut [96] (fun v96 wc => ∃ (kq : Nat) (x96_30 : Bool), v96 = .bool x96_30 ∧ Aside0 (laws_FnTableWalks.j0 kq (Int.tmod (rd t412 0) (wrap64 (t402 * t403))) (Int.tmod (rd t412 1) (wrap64 (t402 * t403))) t417 x96_30 t402 t403 t404 t407 = some r) ∧ Aside0 (kq ≤ k) ∧ Aside0 (Kd.R (Kd.int .i64) 3 wc w.heap.size (fun k_ => some k_ ≠ ((.slice Ao37 t404.length co37) : Value).ownBlock ∧ some k_ ≠ ((.slice Ao38 t407.length co38) : Value).ownBlock) (.slice Ao46 t417.length co46) t417) ∧ Aside0 (Kd.R (Kd.int .i64) 3 wc w.heap.size (fun k_ => some k_ ≠ ((.slice Ao46 t417.length co46) : Value).ownBlock ∧ some k_ ≠ ((.slice Ao38 t407.length co38) : Value).ownBlock) (.slice Ao37 t404.length co37) t404) ∧ Aside0 (Kd.R (Kd.int .i64) 3 wc w.heap.size (fun k_ => some k_ ≠ ((.slice Ao46 t417.length co46) : Value).ownBlock ∧ some k_ ≠ ((.slice Ao37 t404.length co37) : Value).ownBlock) (.slice Ao38 t407.length co38) t407) ∧ Aside0 (wc.heap[gb410]? = some (.cells #[.int .i64 t402, .int .i64 t403, (.slice Ao37 t404.length co37)] 31 (0, 0))) ∧ Aside0 (wc.heap[gb411]? = some (.cells #[(.slice Ao38 t407.length co38)] 40 (0, 0))) ∧ Aside0 (Below w.heap.size w wc))
            case first =>
              have H := HC31.out
              clear HC31
              by_cases c48 : (t417.length : Int) = 0
              · rw [if_pos c48] at H
                have c48b0 : ((t417.length : Int) == 0) = true := beq_iff_eq.mpr c48
                have c48b1 : ((t417.length : Int) != 0) = false := bne_eq_false_iff_eq.mpr c48
                clear c48
                (first | rw [c48b0] | (simp only [i64_w, i32_w]; rw [c48b0]) | skip)
                have H' := Aside0.mk H
                clear H
                go_wp2
                go_meet
                case rel => exact ⟨_, (true), (by first | rfl | (simp; done) | (simp [*]; done)), H', ⟨by first | omega | exact Nat.le_refl _⟩, ⟨by (with_reducible repeat (first | apply Kd.R_alloc | apply Kd.R_drewN | apply Kd.R_drew)); exact Kd.R_mono HO419.out (fun _ hk => ⟨hk.1.1.1.2, hk.1.1.2⟩)⟩, ⟨by (with_reducible repeat (first | apply Kd.R_alloc | apply Kd.R_drewN | apply Kd.R_drew)); exact Kd.R_mono HO406.out (fun _ hk => ⟨hk.1.2, hk.1.1.1⟩)⟩, ⟨by (with_reducible repeat (first | apply Kd.R_alloc | apply Kd.R_drewN | apply Kd.R_drew)); exact Kd.R_mono HO409.out (fun _ hk => ⟨hk.1.2, hk.1.1.1⟩)⟩, ⟨by (with_reducible repeat (first | refine blk_drewN ?_ _ | refine blk_drew ?_ | refine blk_alloc ?_ _)); exact BK410.out⟩, ⟨by (with_reducible repeat (first | refine blk_drewN ?_ _ | refine blk_drew ?_ | refine blk_alloc ?_ _)); exact BK411.out⟩, ⟨by repeat (first | (with_reducible first | exact HB.out | apply below_alloc | apply pw_below_drewN | apply below_drew1 | refine below_set ?_ GE410.out | refine below_set ?_ GE411.out) | exact HB.out)⟩⟩
              · rw [if_neg c48] at H
                have c48b0 : ((t417.length : Int) == 0) = false := beq_eq_false_iff_ne.mpr c48
                have c48b1 : ((t417.length : Int) != 0) = true := bne_iff_ne.mpr c48
                have c48b2 : ¬ (t417 = []) := fun h_ => c48 (by rw [h_]; rfl)
                (first | rw [c48b0] | (simp only [i64_w, i32_w]; rw [c48b0]) | skip)
                by_cases c49 : (t421.length : Int) = (wrap64 ((t417.length : Int) + 1))
                · rw [if_pos c49] at H
                  have c49b0 : ((t421.length : Int) == (wrap64 ((t417.length : Int) + 1))) = true := beq_iff_eq.mpr c49
                  have c49b1 : ((t421.length : Int) != (wrap64 ((t417.length : Int) + 1))) = false := bne_eq_false_iff_eq.mpr c49
                  clear c49
                  by_cases c50 : 0 < (t421.length : Int)
                  · rw [if_pos c50] at H
                    have c50b0 : decide (0 < (t421.length : Int)) = true := decide_eq_true c50
                    have c50b1 : decide (0 < t421.length) = true := decide_eq_true (by omega)
                    clear c50
                    by_cases c51 : (rd t421 0) = (Int.tmod (rd t412 0) (wrap64 (t402 * t403)))
                    · rw [if_pos c51] at H
                      have c51b0 : ((rd t421 0) == (Int.tmod (rd t412 0) (wrap64 (t402 * t403)))) = true := beq_iff_eq.mpr c51
                      have c51b1 : ((rd t421 0) != (Int.tmod (rd t412 0) (wrap64 (t402 * t403)))) = false := bne_eq_false_iff_eq.mpr c51
                      clear c51
                      obtain ⟨ji52, hji52⟩ : ∃ j_ : Int, (wrap64 ((t421.length : Int) - 1)) = j_ := ⟨_, rfl⟩
                      replace H : (if 0 ≤ (ji52) then (if (ji52) < (t421.length : Int) then (if (rd t421 (ji52)) = (Int.tmod (rd t412 1) (wrap64 (t402 * t403))) then ((impl_Distance.f k t402 t403 (Int.tmod (rd t412 0) (wrap64 (t402 * t403))) (Int.tmod (rd t412 1) (wrap64 (t402 * t403)))).bind fun t426 => (laws_FnTableWalks.j0 k (Int.tmod (rd t412 0) (wrap64 (t402 * t403))) (Int.tmod (rd t412 1) (wrap64 (t402 * t403))) t417 (decide ((t417.length : Int) < t426)) t402 t403 t404 t407)) else (laws_FnTableWalks.j0 k (Int.tmod (rd t412 0) (wrap64 (t402 * t403))) (Int.tmod (rd t412 1) (wrap64 (t402 * t403))) t417 true t402 t403 t404 t407)) else (none)) else (none)) = some r := by first | (rw [hji52] at H; exact H) | (simp only [hji52] at H ⊢; exact H)
                      have hji52w : (IntKind.i64.wrap ((t421.length : Int) - 1)) = ji52 := (i64_w _).trans hji52
                      by_cases c53 : 0 ≤ (ji52)
                      · rw [if_pos c53] at H
                        have c53b0 : decide (0 ≤ (ji52)) = true := decide_eq_true c53
                        clear c53
                        by_cases c54 : (ji52) < (t421.length : Int)
                        · rw [if_pos c54] at H
                          have c54b0 : decide ((ji52) < (t421.length : Int)) = true := decide_eq_true c54
                          clear c54
                          by_cases c55 : (rd t421 (ji52)) = (Int.tmod (rd t412 1) (wrap64 (t402 * t403)))
                          · rw [if_pos c55] at H
                            have c55b0 : ((rd t421 (ji52)) == (Int.tmod (rd t412 1) (wrap64 (t402 * t403)))) = true := beq_iff_eq.mpr c55
                            have c55b1 : ((rd t421 (ji52)) != (Int.tmod (rd t412 1) (wrap64 (t402 * t403)))) = false := bne_eq_false_iff_eq.mpr c55
                            clear c55
                            replace H := Option.bind_eq_some_iff.mp H
                            obtain ⟨t426, A560, H⟩ := H
                            replace H : (laws_FnTableWalks.j0 k (Int.tmod (rd t412 0) (wrap64 (t402 * t403))) (Int.tmod (rd t412 1) (wrap64 (t402 * t403))) t417 (decide ((t417.length : Int) < t426)) t402 t403 t404 t407) = some r := H
                            have A56 := Aside0.mk A560
                            clear A560
                            have H' := Aside0.mk H
                            clear H
                            obtain ⟨Ao57, co57, eo57⟩ := Kd.R_slice HO423.out
                            subst eo57
                            have p424 : 0 ≤ (0 : Int) := (by omega)
                            have q424 : 0 < (t421.length : Int) := of_decide_eq_true (by first | (with_reducible assumption) | assumption)
                            obtain ⟨ad424, e424, hx424_0⟩ := Kd.at_int (Kd.R_reads' HO423.out).2.2 0 p424 q424
                            cases e424
                            have qi424 : (0 < t421.length) = True := eq_true (by omega)
                            (try rw [show ((0 : Int)).toNat = 0 from rfl] at hx424_0)
                            (try rw [Addr.add_zero'] at hx424_0)
                            replace p424 := eq_true p424
                            replace q424 := eq_true q424
                            have p425 : 0 ≤ ((ji52) : Int) := of_decide_eq_true (by first | (with_reducible assumption) | assumption)
                            have q425 : (ji52) < (t421.length : Int) := of_decide_eq_true (by first | (with_reducible assumption) | assumption)
                            obtain ⟨ad425, e425, hx425_0⟩ := Kd.at_int (Kd.R_reads' HO423.out).2.2 (ji52) p425 q425
                            obtain rfl : ad424 = ad425 := (by injection e425)
                            replace p425 := eq_true p425
                            replace q425 := eq_true q425
                            have hnb58 := NB410_411.out
                            have hnc58 := NB411_410.out
                            have hcz59_0 : w47.cell? ⟨gb410, 0, none⟩ = some (.int .i64 t402) := (blk_cell BK410.out 0).trans rfl
                            have hcz59_1 : w47.cell? ⟨gb410, 1, none⟩ = some (.int .i64 t403) := (blk_cell BK410.out 1).trans rfl
                            have hcz59_2 : w47.cell? ⟨gb410, 2, none⟩ = some (.slice Ao37 t404.length co37) := (blk_cell BK410.out 2).trans rfl
                            have hfz59_0 := blk_frozen BK410.out 0
                            have hfz59_1 := blk_frozen BK410.out 1
                            have hfz59_2 := blk_frozen BK410.out 2
                            go_wp2_with (first | (go_at_call 24; (with_reducible refine (impl_Distance.calls k t402 t403 (Int.tmod (rd t412 0) (wrap64 (t402 * t403))) (Int.tmod (rd t412 1) (wrap64 (t402 * t403))) t426 _ A56.out).mono ?_); rintro e w60 ⟨rfl, hb⟩; have n0_ := Aside0.mk (Kd.R_below (by (with_reducible repeat (first | apply Kd.R_alloc | apply Kd.R_drewN | apply Kd.R_drew)); exact HO406.out) hb); have n1_ := Aside0.mk (Kd.R_below (by (with_reducible repeat (first | apply Kd.R_alloc | apply Kd.R_drewN | apply Kd.R_drew)); exact HO409.out) hb); have n2_ := Aside0.mk (Kd.R_below (by (with_reducible repeat (first | apply Kd.R_alloc | apply Kd.R_drewN | apply Kd.R_drew)); exact HO414.out) hb); have n3_ := Aside0.mk (Kd.R_below (by (with_reducible repeat (first | apply Kd.R_alloc | apply Kd.R_drewN | apply Kd.R_drew)); exact HO419.out) hb); have n4_ := Aside0.mk (Kd.R_below (by (with_reducible repeat (first | apply Kd.R_alloc | apply Kd.R_drewN | apply Kd.R_drew)); exact HO423.out) hb); have n5_ := Aside0.mk (blk_below (g := gb410) (o := .cells #[.int .i64 t402, .int .i64 t403, .slice Ao37 t404.length co37] 31 (0, 0)) (by (with_reducible repeat (first | refine blk_drewN ?_ _ | refine blk_drew ?_ | refine blk_alloc ?_ _)); exact BK410.out) hb); have n6_ := Aside0.mk (blk_below (g := gb411) (o := .cells #[.slice Ao38 t407.length co38] 40 (0, 0)) (by (with_reducible repeat (first | refine blk_drewN ?_ _ | refine blk_drew ?_ | refine blk_alloc ?_ _)); exact BK411.out) hb); have n7_ := Aside0.mk (below_step (by repeat (first | (with_reducible first | exact HB.out | apply below_alloc | apply pw_below_drewN | apply below_drew1 | refine below_set ?_ GE410.out | refine below_set ?_ GE411.out) | exact HB.out)) hb); clear HO406; clear HO409; clear HO414; clear HO419; clear HO423; clear BK410; clear BK411; clear HB; have HO406 := n0_; have HO409 := n1_; have HO414 := n2_; have HO419 := n3_; have HO423 := n4_; have BK410 := n5_; have BK411 := n6_; have HB := n7_; clear n0_ n1_ n2_ n3_ n4_ n5_ n6_ n7_; (try clear hb); (try clear hb2); (try clear hk); (try clear hi)))
                            go_meet
                            case rel => exact ⟨_, (decide ((t417.length : Int) < t426)), (by first | rfl | (simp; done) | (simp [*]; done)), H', ⟨by first | omega | exact Nat.le_refl _⟩, ⟨by (with_reducible repeat (first | apply Kd.R_alloc | apply Kd.R_drewN | apply Kd.R_drew)); exact Kd.R_mono HO419.out (fun _ hk => ⟨hk.1.1.1.2, hk.1.1.2⟩)⟩, ⟨by (with_reducible repeat (first | apply Kd.R_alloc | apply Kd.R_drewN | apply Kd.R_drew)); exact Kd.R_mono HO406.out (fun _ hk => ⟨hk.1.2, hk.1.1.1⟩)⟩, ⟨by (with_reducible repeat (first | apply Kd.R_alloc | apply Kd.R_drewN | apply Kd.R_drew)); exact Kd.R_mono HO409.out (fun _ hk => ⟨hk.1.2, hk.1.1.1⟩)⟩, ⟨by (with_reducible repeat (first | refine blk_drewN ?_ _ | refine blk_drew ?_ | refine blk_alloc ?_ _)); exact BK410.out⟩, ⟨by (with_reducible repeat (first | refine blk_drewN ?_ _ | refine blk_drew ?_ | refine blk_alloc ?_ _)); exact BK411.out⟩, ⟨by repeat (first | (with_reducible first | exact HB.out | apply below_alloc | apply pw_below_drewN | apply below_drew1 | refine below_set ?_ GE410.out | refine below_set ?_ GE411.out) | exact HB.out)⟩⟩
                          · rw [if_neg c55] at H
                            have c55b0 : ((rd t421 (ji52)) == (Int.tmod (rd t412 1) (wrap64 (t402 * t403)))) = false := beq_eq_false_iff_ne.mpr c55
                            have c55b1 : ((rd t421 (ji52)) != (Int.tmod (rd t412 1) (wrap64 (t402 * t403)))) = true := bne_iff_ne.mpr c55
                            have H' := Aside0.mk H
                            clear H
                            obtain ⟨Ao61, co61, eo61⟩ := Kd.R_slice HO423.out
                            subst eo61
                            have p424 : 0 ≤ (0 : Int) := (by omega)
                            have q424 : 0 < (t421.length : Int) := of_decide_eq_true (by first | (with_reducible assumption) | assumption)
                            obtain ⟨ad424, e424, hx424_0⟩ := Kd.at_int (Kd.R_reads' HO423.out).2.2 0 p424 q424
                            cases e424
                            have qi424 : (0 < t421.length) = True := eq_true (by omega)
                            (try rw [show ((0 : Int)).toNat = 0 from rfl] at hx424_0)
                            (try rw [Addr.add_zero'] at hx424_0)
                            replace p424 := eq_true p424
                            replace q424 := eq_true q424
                            have p425 : 0 ≤ ((ji52) : Int) := of_decide_eq_true (by first | (with_reducible assumption) | assumption)
                            have q425 : (ji52) < (t421.length : Int) := of_decide_eq_true (by first | (with_reducible assumption) | assumption)
                            obtain ⟨ad425, e425, hx425_0⟩ := Kd.at_int (Kd.R_reads' HO423.out).2.2 (ji52) p425 q425
                            obtain rfl : ad424 = ad425 := (by injection e425)
                            replace p425 := eq_true p425
                            replace q425 := eq_true q425
                            go_wp2
                            go_meet
                            case rel => exact ⟨_, (true), (by first | rfl | (simp; done) | (simp [*]; done)), H', ⟨by first | omega | exact Nat.le_refl _⟩, ⟨by (with_reducible repeat (first | apply Kd.R_alloc | apply Kd.R_drewN | apply Kd.R_drew)); exact Kd.R_mono HO419.out (fun _ hk => ⟨hk.1.1.1.2, hk.1.1.2⟩)⟩, ⟨by (with_reducible repeat (first | apply Kd.R_alloc | apply Kd.R_drewN | apply Kd.R_drew)); exact Kd.R_mono HO406.out (fun _ hk => ⟨hk.1.2, hk.1.1.1⟩)⟩, ⟨by (with_reducible repeat (first | apply Kd.R_alloc | apply Kd.R_drewN | apply Kd.R_drew)); exact Kd.R_mono HO409.out (fun _ hk => ⟨hk.1.2, hk.1.1.1⟩)⟩, ⟨by (with_reducible repeat (first | refine blk_drewN ?_ _ | refine blk_drew ?_ | refine blk_alloc ?_ _)); exact BK410.out⟩, ⟨by (with_reducible repeat (first | refine blk_drewN ?_ _ | refine blk_drew ?_ | refine blk_alloc ?_ _)); exact BK411.out⟩, ⟨by repeat (first | (with_reducible first | exact HB.out | apply below_alloc | apply pw_below_drewN | apply below_drew1 | refine below_set ?_ GE410.out | refine below_set ?_ GE411.out) | exact HB.out)⟩⟩
                        · rw [if_neg c54] at H
                          exact absurd H (by simp)
                      · rw [if_neg c53] at H
                        exact absurd H (by simp)
                    · rw [if_neg c51] at H
                      have c51b0 : ((rd t421 0) == (Int.tmod (rd t412 0) (wrap64 (t402 * t403)))) = false := beq_eq_false_iff_ne.mpr c51
                      have c51b1 : ((rd t421 0) != (Int.tmod (rd t412 0) (wrap64 (t402 * t403)))) = true := bne_iff_ne.mpr c51
                      have H' := Aside0.mk H
                      clear H
                      obtain ⟨Ao62, co62, eo62⟩ := Kd.R_slice HO423.out
                      subst eo62
                      have p424 : 0 ≤ (0 : Int) := (by omega)
                      have q424 : 0 < (t421.length : Int) := of_decide_eq_true (by first | (with_reducible assumption) | assumption)
                      obtain ⟨ad424, e424, hx424_0⟩ := Kd.at_int (Kd.R_reads' HO423.out).2.2 0 p424 q424
                      cases e424
                      have qi424 : (0 < t421.length) = True := eq_true (by omega)
                      (try rw [show ((0 : Int)).toNat = 0 from rfl] at hx424_0)
                      (try rw [Addr.add_zero'] at hx424_0)
                      replace p424 := eq_true p424
                      replace q424 := eq_true q424
                      go_wp2
                      go_meet
                      case rel => exact ⟨_, (true), (by first | rfl | (simp; done) | (simp [*]; done)), H', ⟨by first | omega | exact Nat.le_refl _⟩, ⟨by (with_reducible repeat (first | apply Kd.R_alloc | apply Kd.R_drewN | apply Kd.R_drew)); exact Kd.R_mono HO419.out (fun _ hk => ⟨hk.1.1.1.2, hk.1.1.2⟩)⟩, ⟨by (with_reducible repeat (first | apply Kd.R_alloc | apply Kd.R_drewN | apply Kd.R_drew)); exact Kd.R_mono HO406.out (fun _ hk => ⟨hk.1.2, hk.1.1.1⟩)⟩, ⟨by (with_reducible repeat (first | apply Kd.R_alloc | apply Kd.R_drewN | apply Kd.R_drew)); exact Kd.R_mono HO409.out (fun _ hk => ⟨hk.1.2, hk.1.1.1⟩)⟩, ⟨by (with_reducible repeat (first | refine blk_drewN ?_ _ | refine blk_drew ?_ | refine blk_alloc ?_ _)); exact BK410.out⟩, ⟨by (with_reducible repeat (first | refine blk_drewN ?_ _ | refine blk_drew ?_ | refine blk_alloc ?_ _)); exact BK411.out⟩, ⟨by repeat (first | (with_reducible first | exact HB.out | apply below_alloc | apply pw_below_drewN | apply below_drew1 | refine below_set ?_ GE410.out | refine below_set ?_ GE411.out) | exact HB.out)⟩⟩
                  · rw [if_neg c50] at H
                    exact absurd H (by simp)
                · rw [if_neg c49] at H
                  have c49b0 : ((t421.length : Int) == (wrap64 ((t417.length : Int) + 1))) = false := beq_eq_false_iff_ne.mpr c49
                  have c49b1 : ((t421.length : Int) != (wrap64 ((t417.length : Int) + 1))) = true := bne_iff_ne.mpr c49
                  have H' := Aside0.mk H
                  clear H
                  obtain ⟨Ao63, co63, eo63⟩ := Kd.R_slice HO423.out
                  subst eo63
                  go_wp2
                  go_meet
                  case rel => exact ⟨_, (true), (by first | rfl | (simp; done) | (simp [*]; done)), H', ⟨by first | omega | exact Nat.le_refl _⟩, ⟨by (with_reducible repeat (first | apply Kd.R_alloc | apply Kd.R_drewN | apply Kd.R_drew)); exact Kd.R_mono HO419.out (fun _ hk => ⟨hk.1.1.1.2, hk.1.1.2⟩)⟩, ⟨by (with_reducible repeat (first | apply Kd.R_alloc | apply Kd.R_drewN | apply Kd.R_drew)); exact Kd.R_mono HO406.out (fun _ hk => ⟨hk.1.2, hk.1.1.1⟩)⟩, ⟨by (with_reducible repeat (first | apply Kd.R_alloc | apply Kd.R_drewN | apply Kd.R_drew)); exact Kd.R_mono HO409.out (fun _ hk => ⟨hk.1.2, hk.1.1.1⟩)⟩, ⟨by (with_reducible repeat (first | refine blk_drewN ?_ _ | refine blk_drew ?_ | refine blk_alloc ?_ _)); exact BK410.out⟩, ⟨by (with_reducible repeat (first | refine blk_drewN ?_ _ | refine blk_drew ?_ | refine blk_alloc ?_ _)); exact BK411.out⟩, ⟨by repeat (first | (with_reducible first | exact HB.out | apply below_alloc | apply pw_below_drewN | apply below_drew1 | refine below_set ?_ GE410.out | refine below_set ?_ GE411.out) | exact HB.out)⟩⟩
            case rest =>
              clear HC31
              try clear c1
              try clear c2
              try clear p2
              try clear c3
              try clear c4
              try clear p4
              try clear q4
              try clear hx4
              try clear qi4
              try clear c5
              try clear c6
              try clear c6b0
              try clear c6b1
              try clear p6
              try clear c7
              try clear c7b0
              try clear c7b1
              try clear c8
              try clear c8b0
              try clear c8b1
              try clear c10
              try clear c10b0
              try clear c10b1
              try clear c11
              try clear c11b0
              try clear c11b1
              try clear c11b2
              try clear c16
              try clear c18
              try clear c19
              try clear c20
              try clear c21
              try clear c23
              try clear c35
              try clear p41
              try clear q41
              try clear hx41
              try clear qi41
              try clear p42
              try clear q42
              try clear hx42
              try clear qi42
              try clear c48
              try clear c48b0
              try clear c48b1
              try clear c48b2
              try clear c49
              try clear c49b0
              try clear c49b1
              try clear c50
              try clear c50b0
              try clear c50b1
              try clear c51
              try clear c51b0
              try clear c51b1
              try clear c53
              try clear c53b0
              try clear c54
              try clear c54b0
              try clear c55
              try clear c55b0
              try clear c55b1
              try clear c58
              try clear hcz17_0
              try clear hcz17_1
              try clear hcz17_2
              try clear hcz20_0
              try clear hcz22_0
              try clear hcz22_1
              try clear hcz22_2
              try clear hcz24_0
              try clear hcz27_0
              try clear hcz27_1
              try clear hcz27_2
              try clear hcz28_0
              try clear hcz36_0
              try clear hcz36_1
              try clear hcz36_2
              try clear hcz39_0
              try clear hcz41_0
              try clear hcz41_1
              try clear hcz41_2
              try clear hcz43_0
              try clear hcz45_0
              try clear hcz45_1
              try clear hcz45_2
              try clear hcz59_0
              try clear hcz59_1
              try clear hcz59_2
              try clear hfz17_0
              try clear hfz17_1
              try clear hfz17_2
              try clear hfz20_0
              try clear hfz22_0
              try clear hfz22_1
              try clear hfz22_2
              try clear hfz24_0
              try clear hfz27_0
              try clear hfz27_1
              try clear hfz27_2
              try clear hfz28_0
              try clear hfz36_0
              try clear hfz36_1
              try clear hfz36_2
              try clear hfz39_0
              try clear hfz41_0
              try clear hfz41_1
              try clear hfz41_2
              try clear hfz43_0
              try clear hfz45_0
              try clear hfz45_1
              try clear hfz45_2
              try clear hfz59_0
              try clear hfz59_1
              try clear hfz59_2
              try clear hx415_0
              try clear hx416_0
              try clear hx424_0
              try clear hx425_0
              try clear p415
              try clear p416
              try clear p424
              try clear p425
              try clear q415
              try clear q416
              try clear q424
              try clear q425
              obtain ⟨kq, x96_30, rfl, HA, HJ30, HO_9, HO_411002, HO_412000, BK410, BK411, HB⟩ := hcut
              cases kq with
              | zero => exact absurd HA.out (by simp [laws_FnTableWalks.j0])
              | succ kj30 =>
                have H := HA.out
                clear HA
                simp only [laws_FnTableWalks.j0] at H
                by_cases c64 : x96_30 = true
                · subst c64
                  have H1 : (some false) = some r := by rw [if_pos rfl] at H; exact H
                  clear H
                  have H := H1
                  clear H1
                  obtain rfl := Option.some.inj H
                  exact absurd HRT.out (by simp)
                · replace c64 := Bool.eq_false_iff.mpr c64
                  subst c64
                  have H1 : ((impl_IsRoute.f kj30 t402 t403 t404 t417).bind fun t427 => (if t427 = true then ((impl_IsLoopFree.f kj30 t402 t403 t404 t417).bind fun t428 => (if t428 = true then ((impl_PortAt.f kj30 t402 t403 t404 t407 (Int.tmod (rd t412 0) (wrap64 (t402 * t403))) (Int.tmod (rd t412 1) (wrap64 (t402 * t403)))).bind fun t429 => (if 0 < (t417.length : Int) then (some (t429 == (Int.tmod (rd t417 0) 4))) else (none))) else (some false))) else (some false))) = some r := by rw [if_neg (show ¬ (false = true) by decide)] at H; exact H
                  clear H
                  have H := H1
                  clear H1
                  replace H := Option.bind_eq_some_iff.mp H
                  obtain ⟨t427, A650, H⟩ := H
                  replace H : (if t427 = true then ((impl_IsLoopFree.f kj30 t402 t403 t404 t417).bind fun t428 => (if t428 = true then ((impl_PortAt.f kj30 t402 t403 t404 t407 (Int.tmod (rd t412 0) (wrap64 (t402 * t403))) (Int.tmod (rd t412 1) (wrap64 (t402 * t403)))).bind fun t429 => (if 0 < (t417.length : Int) then (some (t429 == (Int.tmod (rd t417 0) 4))) else (none))) else (some false))) else (some false)) = some r := H
                  have A65 := Aside0.mk A650
                  clear A650
                  by_cases c66 : t427 = true
                  · subst c66
                    have H1 : ((impl_IsLoopFree.f kj30 t402 t403 t404 t417).bind fun t428 => (if t428 = true then ((impl_PortAt.f kj30 t402 t403 t404 t407 (Int.tmod (rd t412 0) (wrap64 (t402 * t403))) (Int.tmod (rd t412 1) (wrap64 (t402 * t403)))).bind fun t429 => (if 0 < (t417.length : Int) then (some (t429 == (Int.tmod (rd t417 0) 4))) else (none))) else (some false))) = some r := by rw [if_pos rfl] at H; exact H
                    clear H
                    have H := H1
                    clear H1
                    replace H := Option.bind_eq_some_iff.mp H
                    obtain ⟨t428, A670, H⟩ := H
                    replace H : (if t428 = true then ((impl_PortAt.f kj30 t402 t403 t404 t407 (Int.tmod (rd t412 0) (wrap64 (t402 * t403))) (Int.tmod (rd t412 1) (wrap64 (t402 * t403)))).bind fun t429 => (if 0 < (t417.length : Int) then (some (t429 == (Int.tmod (rd t417 0) 4))) else (none))) else (some false)) = some r := H
                    have A67 := Aside0.mk A670
                    clear A670
                    by_cases c68 : t428 = true
                    · subst c68
                      have H1 : ((impl_PortAt.f kj30 t402 t403 t404 t407 (Int.tmod (rd t412 0) (wrap64 (t402 * t403))) (Int.tmod (rd t412 1) (wrap64 (t402 * t403)))).bind fun t429 => (if 0 < (t417.length : Int) then (some (t429 == (Int.tmod (rd t417 0) 4))) else (none))) = some r := by rw [if_pos rfl] at H; exact H
                      clear H
                      have H := H1
                      clear H1
                      replace H := Option.bind_eq_some_iff.mp H
                      obtain ⟨t429, A690, H⟩ := H
                      replace H : (if 0 < (t417.length : Int) then (some (t429 == (Int.tmod (rd t417 0) 4))) else (none)) = some r := H
                      have A69 := Aside0.mk A690
                      clear A690
                      by_cases c70 : 0 < (t417.length : Int)
                      · rw [if_pos c70] at H
                        have c70b0 : decide (0 < (t417.length : Int)) = true := decide_eq_true c70
                        have c70b1 : decide (0 < t417.length) = true := decide_eq_true (by omega)
                        clear c70
                        obtain rfl := Option.some.inj H
                        try go_wp2
                        have n0_ := Aside0.mk (Kd.R_drew HO_9.out)
                        have n1_ := Aside0.mk (Kd.R_drew HO_411002.out)
                        have n2_ := Aside0.mk (Kd.R_drew HO_412000.out)
                        have n3_ := Aside0.mk (blk_drew BK410.out)
                        have n4_ := Aside0.mk (blk_drew BK411.out)
                        have n5_ := Aside0.mk (below_drew1 HB.out)
                        clear HO_9
                        clear HO_411002
                        clear HO_412000
                        clear BK410
                        clear BK411
                        clear HB
                        have HO_9 := n0_
                        have HO_411002 := n1_
                        have HO_412000 := n2_
                        have BK410 := n3_
                        have BK411 := n4_
                        have HB := n5_
                        clear n0_ n1_ n2_ n3_ n4_ n5_
                        have p430 : 0 ≤ (0 : Int) := (by omega)
                        have q430 : 0 < (t417.length : Int) := of_decide_eq_true (by first | (with_reducible assumption) | assumption)
                        obtain ⟨ad430, e430, hx430_0⟩ := Kd.at_int (Kd.R_reads' HO_9.out).2.2 0 p430 q430
                        cases e430
                        have qi430 : (0 < t417.length) = True := eq_true (by omega)
                        (try rw [show ((0 : Int)).toNat = 0 from rfl] at hx430_0)
                        (try rw [Addr.add_zero'] at hx430_0)
                        replace p430 := eq_true p430
                        replace q430 := eq_true q430
                        refine start_ (n := 21) (S := fun w' => w'.cell? ⟨gb410, 0, none⟩ = some (.int .i64 t402) ∧ w'.cell? ⟨gb410, 1, none⟩ = some (.int .i64 t403) ∧ w'.cell? ⟨gb410, 2, none⟩ = some (.slice Ao37 t404.length co37) ∧ w'.cell? ⟨gb411, 0, none⟩ = some (.slice Ao38 t407.length co38) ∧ w'.cell? ad430 = some (.int .i64 (rd t417 0))) (ds := []) #[false, false, false, false, false, false, false, false, false, false, false, false, false, false, false, false, false, false, false, false, false] (by kernel_rfl) rfl rfl ⟨(blk_cell BK410.out 0).trans rfl, (blk_cell BK410.out 1).trans rfl, (blk_cell BK410.out 2).trans rfl, (blk_cell BK411.out 0).trans rfl, hx430_0⟩ (fun hHeld => ?_); refine with_tabW laws_FnTableWalks.tab14 laws_FnTableWalks.bits14 (fun HT_ HW_ => ?_)
                        generalize wc.drew = w71 at HO_9 HO_411002 HO_412000 BK410 BK411 HB hx430_0 hHeld ⊢
                        refine pure_ (i := 1) (N := some 98) (v := ?_) (a' := ?_) #[false, true, false, false, false, false, false, false, false, false, false, false, false, false, false, false, false, false, false, false, false] rfl rfl (any_of HT_.out (by kernel_rfl)) (fun _ _ _ h => h) (Or.inl ⟨by rfl, ?_⟩) ?_ ?_
                        rotate_left
                        · intro w'
                          go_simp
                          with_reducible rfl
                        rotate_left
                        · simp only [Act.put, List.setIfInBounds_toArray, List.set_cons_zero, List.set_cons_succ, i64_w, i32_w]
                          rfl
                        refine take_ (i := 0) (N := some 97) (v := ?_) (a' := ?_) #[true, true, false, false, false, false, false, false, false, false, false, false, false, false, false, false, false, false, false, false, false] rfl rfl (take_ofW HT_.out HW_.out (by kernel_rfl)) (fun _ _ _ h => h) (Or.inl ⟨by rfl, ?_⟩) hHeld ?_ ?_
                        rotate_left
                        · rintro w' ⟨s0, s1, s2, s3, s4⟩
                          go_simp
                          with_reducible rfl
                        rotate_left
                        · simp only [Act.put, List.setIfInBounds_toArray, List.set_cons_zero, List.set_cons_succ, i64_w, i32_w]
                          rfl
                        refine one_ (i := 2) (N := some 99) #[true, true, true, false, false, false, false, false, false, false, false, false, false, false, false, false, false, false, false, false, false] rfl rfl (one_of HT_.out (by kernel_rfl)) (by decide) (fun K hK => ?_)
                        refine goes_ Try.func15 (by kernel_rfl) rfl #[.agg #[.int .i64 t402, .int .i64 t403, .slice Ao37 t404.length co37], .slice (some ad430) t417.length co46] (by rfl) rfl rfl (by (try simp only [List.map_toArray, List.map_cons, List.map_nil]); first | done | rfl | (simp only [List.length_drop, List.length_take]; rfl)) ?_
                        with_reducible refine (impl_IsRoute.calls kj30 t402 t403 _ _ t404 _ _ t417 true _ ?side1 ?side2 ?side3 ?side4 A65.out).mono ?_
                        (case side1 => repeat (first | exact (Kd.R_reads' HO_411002.out).2.2 | (with_reducible refine Kd.C_alloc ?_ _) | (with_reducible refine Kd.C_drewN ?_ _) | (with_reducible refine Kd.C_drew ?_)))
                        (case side2 => exact (Kd.R_reads' HO_411002.out).2.1)
                        (case side3 => repeat (first | exact (Kd.R_reads' HO_9.out).2.2 | (with_reducible refine Kd.C_alloc ?_ _) | (with_reducible refine Kd.C_drewN ?_ _) | (with_reducible refine Kd.C_drew ?_)))
                        (case side4 => exact (Kd.R_reads' HO_9.out).2.1)
                        rintro e w72 ⟨rfl, hb⟩
                        have HS4_ := (hb.cell (World.block_lt_of_cell? _ _ (hHeld.2.2.2.2))).trans (hHeld.2.2.2.2)
                        refine ⟨_, rfl, ?_⟩
                        have n0_ := Aside0.mk (Kd.R_below (by (with_reducible repeat (first | apply Kd.R_alloc | apply Kd.R_drewN | apply Kd.R_drew)); exact HO_9.out) hb)
                        have n1_ := Aside0.mk (Kd.R_below (by (with_reducible repeat (first | apply Kd.R_alloc | apply Kd.R_drewN | apply Kd.R_drew)); exact HO_411002.out) hb)
                        have n2_ := Aside0.mk (Kd.R_below (by (with_reducible repeat (first | apply Kd.R_alloc | apply Kd.R_drewN | apply Kd.R_drew)); exact HO_412000.out) hb)
                        have n3_ := Aside0.mk (blk_below (g := gb410) (o := .cells #[.int .i64 t402, .int .i64 t403, .slice Ao37 t404.length co37] 31 (0, 0)) (by (with_reducible repeat (first | refine blk_drewN ?_ _ | refine blk_drew ?_ | refine blk_alloc ?_ _)); exact BK410.out) hb)
                        have n4_ := Aside0.mk (blk_below (g := gb411) (o := .cells #[.slice Ao38 t407.length co38] 40 (0, 0)) (by (with_reducible repeat (first | refine blk_drewN ?_ _ | refine blk_drew ?_ | refine blk_alloc ?_ _)); exact BK411.out) hb)
                        have n5_ := Aside0.mk (below_step (by repeat (first | (with_reducible first | exact HB.out | apply below_alloc | apply pw_below_drewN | apply below_drew1 | refine below_set ?_ GE410.out | refine below_set ?_ GE411.out) | exact HB.out)) hb)
                        clear HO_9
                        clear HO_411002
                        clear HO_412000
                        clear BK410
                        clear BK411
                        clear HB
                        have HO_9 := n0_
                        have HO_411002 := n1_
                        have HO_412000 := n2_
                        have BK410 := n3_
                        have BK411 := n4_
                        have HB := n5_
                        clear n0_ n1_ n2_ n3_ n4_ n5_
                        (try clear hb)
                        (try clear hb2)
                        (try clear hk)
                        (try clear hi)
                        refine hK.out _ _ ⟨(blk_cell BK410.out 0).trans rfl, (blk_cell BK410.out 1).trans rfl, (blk_cell BK410.out 2).trans rfl, (blk_cell BK411.out 0).trans rfl, HS4_⟩ (fun hHeld => ?_)
                        clear hK K
                        refine norm_ (a' := ?_) ?_ ?_
                        rotate_left
                        · show Act.put _ (some 99) _ = _
                          simp only [Act.put, List.setIfInBounds_toArray, List.set_cons_zero, List.set_cons_succ, i64_w, i32_w]
                          rfl
                        refine pure_ (i := 3) (N := some 100) (v := ?_) (a' := ?_) #[true, true, true, true, false, false, false, false, false, false, false, false, false, false, false, false, false, false, false, false, false] rfl rfl (any_of HT_.out (by kernel_rfl)) (fun _ _ _ h => h) (Or.inl ⟨by rfl, ?_⟩) ?_ ?_
                        rotate_left
                        · intro w'
                          go_simp
                          with_reducible rfl
                        rotate_left
                        · simp only [Act.put, List.setIfInBounds_toArray, List.set_cons_zero, List.set_cons_succ, i64_w, i32_w]
                          rfl
                        refine pure_ (i := 5) (N := some 102) (v := ?_) (a' := ?_) #[true, true, true, true, false, true, false, false, false, false, false, false, false, false, false, false, false, false, false, false, false] rfl rfl (any_of HT_.out (by kernel_rfl)) (fun _ _ _ h => h) (Or.inl ⟨by rfl, ?_⟩) ?_ ?_
                        rotate_left
                        · intro w'
                          go_simp
                          with_reducible rfl
                        rotate_left
                        · simp only [Act.put, List.setIfInBounds_toArray, List.set_cons_zero, List.set_cons_succ, i64_w, i32_w]
                          rfl
                        refine take_ (i := 4) (N := some 101) (v := ?_) (a' := ?_) #[true, true, true, true, true, true, false, false, false, false, false, false, false, false, false, false, false, false, false, false, false] rfl rfl (take_ofW HT_.out HW_.out (by kernel_rfl)) (fun _ _ _ h => h) (Or.inl ⟨by rfl, ?_⟩) hHeld ?_ ?_
                        rotate_left
                        · rintro w' ⟨s0, s1, s2, s3, s4⟩
                          go_simp
                          with_reducible rfl
                        rotate_left
                        · simp only [Act.put, List.setIfInBounds_toArray, List.set_cons_zero, List.set_cons_succ, i64_w, i32_w]
                          rfl
                        refine one_ (i := 6) (N := some 103) #[true, true, true, true, true, true, true, false, false, false, false, false, false, false, false, false, false, false, false, false, false] rfl rfl (one_of HT_.out (by kernel_rfl)) (by decide) (fun K hK => ?_)
                        refine goes_ Try.func25 (by kernel_rfl) rfl #[.agg #[.int .i64 t402, .int .i64 t403, .slice Ao37 t404.length co37], .slice (some ad430) t417.length co46] (by rfl) rfl rfl (by (try simp only [List.map_toArray, List.map_cons, List.map_nil]); first | done | rfl | (simp only [List.length_drop, List.length_take]; rfl)) ?_
                        with_reducible refine (impl_IsLoopFree.calls kj30 t402 t403 _ _ t404 _ _ t417 true _ ?side1 ?side2 ?side3 ?side4 A67.out).mono ?_
                        (case side1 => repeat (first | exact (Kd.R_reads' HO_411002.out).2.2 | (with_reducible refine Kd.C_alloc ?_ _) | (with_reducible refine Kd.C_drewN ?_ _) | (with_reducible refine Kd.C_drew ?_)))
                        (case side2 => exact (Kd.R_reads' HO_411002.out).2.1)
                        (case side3 => repeat (first | exact (Kd.R_reads' HO_9.out).2.2 | (with_reducible refine Kd.C_alloc ?_ _) | (with_reducible refine Kd.C_drewN ?_ _) | (with_reducible refine Kd.C_drew ?_)))
                        (case side4 => exact (Kd.R_reads' HO_9.out).2.1)
                        rintro e w73 ⟨rfl, hb⟩
                        have HS4_ := (hb.cell (World.block_lt_of_cell? _ _ (hHeld.2.2.2.2))).trans (hHeld.2.2.2.2)
                        refine ⟨_, rfl, ?_⟩
                        have n0_ := Aside0.mk (Kd.R_below (by (with_reducible repeat (first | apply Kd.R_alloc | apply Kd.R_drewN | apply Kd.R_drew)); exact HO_9.out) hb)
                        have n1_ := Aside0.mk (Kd.R_below (by (with_reducible repeat (first | apply Kd.R_alloc | apply Kd.R_drewN | apply Kd.R_drew)); exact HO_411002.out) hb)
                        have n2_ := Aside0.mk (Kd.R_below (by (with_reducible repeat (first | apply Kd.R_alloc | apply Kd.R_drewN | apply Kd.R_drew)); exact HO_412000.out) hb)
                        have n3_ := Aside0.mk (blk_below (g := gb410) (o := .cells #[.int .i64 t402, .int .i64 t403, .slice Ao37 t404.length co37] 31 (0, 0)) (by (with_reducible repeat (first | refine blk_drewN ?_ _ | refine blk_drew ?_ | refine blk_alloc ?_ _)); exact BK410.out) hb)
                        have n4_ := Aside0.mk (blk_below (g := gb411) (o := .cells #[.slice Ao38 t407.length co38] 40 (0, 0)) (by (with_reducible repeat (first | refine blk_drewN ?_ _ | refine blk_drew ?_ | refine blk_alloc ?_ _)); exact BK411.out) hb)
                        have n5_ := Aside0.mk (below_step (by repeat (first | (with_reducible first | exact HB.out | apply below_alloc | apply pw_below_drewN | apply below_drew1 | refine below_set ?_ GE410.out | refine below_set ?_ GE411.out) | exact HB.out)) hb)
                        clear HO_9
                        clear HO_411002
                        clear HO_412000
                        clear BK410
                        clear BK411
                        clear HB
                        have HO_9 := n0_
                        have HO_411002 := n1_
                        have HO_412000 := n2_
                        have BK410 := n3_
                        have BK411 := n4_
                        have HB := n5_
                        clear n0_ n1_ n2_ n3_ n4_ n5_
                        (try clear hb)
                        (try clear hb2)
                        (try clear hk)
                        (try clear hi)
                        refine hK.out _ _ ⟨(blk_cell BK410.out 0).trans rfl, (blk_cell BK410.out 1).trans rfl, (blk_cell BK410.out 2).trans rfl, (blk_cell BK411.out 0).trans rfl, HS4_⟩ (fun hHeld => ?_)
                        clear hK K
                        refine norm_ (a' := ?_) ?_ ?_
                        rotate_left
                        · show Act.put _ (some 103) _ = _
                          simp only [Act.put, List.setIfInBounds_toArray, List.set_cons_zero, List.set_cons_succ, i64_w, i32_w]
                          rfl
                        refine pure_ (i := 7) (N := some 104) (v := ?_) (a' := ?_) #[true, true, true, true, true, true, true, true, false, false, false, false, false, false, false, false, false, false, false, false, false] rfl rfl (any_of HT_.out (by kernel_rfl)) (fun _ _ _ h => h) (Or.inl ⟨by rfl, ?_⟩) ?_ ?_
                        rotate_left
                        · intro w'
                          go_simp
                          with_reducible rfl
                        rotate_left
                        · simp only [Act.put, List.setIfInBounds_toArray, List.set_cons_zero, List.set_cons_succ, i64_w, i32_w]
                          rfl
                        refine pure_ (i := 8) (N := some 105) (v := ?_) (a' := ?_) #[true, true, true, true, true, true, true, true, true, false, false, false, false, false, false, false, false, false, false, false, false] rfl rfl (any_of HT_.out (by kernel_rfl)) (fun _ _ _ h => h) (Or.inl ⟨by rfl, ?_⟩) ?_ ?_
                        rotate_left
                        · intro w'
                          go_simp
                          with_reducible rfl
                        rotate_left
                        · simp only [Act.put, List.setIfInBounds_toArray, List.set_cons_zero, List.set_cons_succ, i64_w, i32_w]
                          rfl
                        refine pure_ (i := 11) (N := some 108) (v := ?_) (a' := ?_) #[true, true, true, true, true, true, true, true, true, false, false, true, false, false, false, false, false, false, false, false, false] rfl rfl (any_of HT_.out (by kernel_rfl)) (fun _ _ _ h => h) (Or.inl ⟨by rfl, ?_⟩) ?_ ?_
                        rotate_left
                        · intro w'
                          go_simp
                          with_reducible rfl
                        rotate_left
                        · simp only [Act.put, List.setIfInBounds_toArray, List.set_cons_zero, List.set_cons_succ, i64_w, i32_w]
                          rfl
                        refine pure_ (i := 12) (N := some 109) (v := ?_) (a' := ?_) #[true, true, true, true, true, true, true, true, true, false, false, true, true, false, false, false, false, false, false, false, false] rfl rfl (any_of HT_.out (by kernel_rfl)) (fun _ _ _ h => h) (Or.inl ⟨by rfl, ?_⟩) ?_ ?_
                        rotate_left
                        · intro w'
                          go_simp
                          with_reducible rfl
                        rotate_left
                        · simp only [Act.put, List.setIfInBounds_toArray, List.set_cons_zero, List.set_cons_succ, i64_w, i32_w]
                          rfl
                        refine pure_ (i := 14) (N := some 111) (v := ?_) (a' := ?_) #[true, true, true, true, true, true, true, true, true, false, false, true, true, false, true, false, false, false, false, false, false] rfl rfl (any_of HT_.out (by kernel_rfl)) (fun _ _ _ h => h) (Or.inl ⟨by rfl, ?_⟩) ?_ ?_
                        rotate_left
                        · intro w'
                          go_simp
                          with_reducible rfl
                        rotate_left
                        · simp only [Act.put, List.setIfInBounds_toArray, List.set_cons_zero, List.set_cons_succ, i64_w, i32_w]
                          rfl
                        refine pure_ (i := 15) (N := some 112) (v := ?_) (a' := ?_) #[true, true, true, true, true, true, true, true, true, false, false, true, true, false, true, true, false, false, false, false, false] rfl rfl (any_of HT_.out (by kernel_rfl)) (fun _ _ _ h => h) (Or.inl ⟨by rfl, ?_⟩) ?_ ?_
                        rotate_left
                        · intro w'
                          go_simp
                          with_reducible rfl
                        rotate_left
                        · simp only [Act.put, List.setIfInBounds_toArray, List.set_cons_zero, List.set_cons_succ, i64_w, i32_w]
                          rfl
                        refine take_ (i := 9) (N := some 106) (v := ?_) (a' := ?_) #[true, true, true, true, true, true, true, true, true, true, false, true, true, false, true, true, false, false, false, false, false] rfl rfl (take_ofW HT_.out HW_.out (by kernel_rfl)) (fun _ _ _ h => h) (Or.inl ⟨by rfl, ?_⟩) hHeld ?_ ?_
                        rotate_left
                        · rintro w' ⟨s0, s1, s2, s3, s4⟩
                          go_simp
                          with_reducible rfl
                        rotate_left
                        · simp only [Act.put, List.setIfInBounds_toArray, List.set_cons_zero, List.set_cons_succ, i64_w, i32_w]
                          rfl
                        refine take_ (i := 10) (N := some 107) (v := ?_) (a' := ?_) #[true, true, true, true, true, true, true, true, true, true, true, true, true, false, true, true, false, false, false, false, false] rfl rfl (take_ofW HT_.out HW_.out (by kernel_rfl)) (fun _ _ _ h => h) (Or.inl ⟨by rfl, ?_⟩) hHeld ?_ ?_
                        rotate_left
                        · rintro w' ⟨s0, s1, s2, s3, s4⟩
                          go_simp
                          with_reducible rfl
                        rotate_left
                        · simp only [Act.put, List.setIfInBounds_toArray, List.set_cons_zero, List.set_cons_succ, i64_w, i32_w]
                          rfl
                        refine take_ (i := 16) (N := some 113) (v := ?_) (a' := ?_) #[true, true, true, true, true, true, true, true, true, true, true, true, true, false, true, true, true, false, false, false, false] rfl rfl (take_ofW HT_.out HW_.out (by kernel_rfl)) (fun _ _ _ h => h) (Or.inl ⟨by rfl, ?_⟩) hHeld ?_ ?_
                        rotate_left
                        · rintro w' ⟨s0, s1, s2, s3, s4⟩
                          go_simp
                          with_reducible rfl
                        rotate_left
                        · simp only [Act.put, List.setIfInBounds_toArray, List.set_cons_zero, List.set_cons_succ, i64_w, i32_w]
                          rfl
                        refine pure_ (i := 17) (N := some 114) (v := ?_) (a' := ?_) #[true, true, true, true, true, true, true, true, true, true, true, true, true, false, true, true, true, true, false, false, false] rfl rfl (any_of HT_.out (by kernel_rfl)) (fun _ _ _ h => h) (Or.inl ⟨by rfl, ?_⟩) ?_ ?_
                        rotate_left
                        · intro w'
                          go_simp
                          with_reducible rfl
                        rotate_left
                        · simp only [Act.put, List.setIfInBounds_toArray, List.set_cons_zero, List.set_cons_succ, i64_w, i32_w]
                          rfl
                        refine one_ (i := 13) (N := some 110) #[true, true, true, true, true, true, true, true, true, true, true, true, true, true, true, true, true, true, false, false, false] rfl rfl (one_of HT_.out (by kernel_rfl)) (by decide) (fun K hK => ?_)
                        refine goes_ Try.func22 (by kernel_rfl) rfl #[.agg #[.int .i64 t402, .int .i64 t403, .slice Ao37 t404.length co37], .agg #[.slice Ao38 t407.length co38], .int .i64 (Int.tmod (rd t412 0) (wrap64 (t402 * t403))), .int .i64 (Int.tmod (rd t412 1) (wrap64 (t402 * t403)))] (by rfl) rfl rfl (by (try simp only [List.map_toArray, List.map_cons, List.map_nil]); first | done | rfl | (simp only [List.length_drop, List.length_take]; rfl)) ?_
                        with_reducible refine (impl_PortAt.calls kj30 t402 t403 _ _ t404 _ _ t407 (Int.tmod (rd t412 0) (wrap64 (t402 * t403))) (Int.tmod (rd t412 1) (wrap64 (t402 * t403))) t429 _ ?side1 ?side2 ?side3 ?side4 A69.out).mono ?_
                        (case side1 => repeat (first | exact (Kd.R_reads' HO_411002.out).2.2 | (with_reducible refine Kd.C_alloc ?_ _) | (with_reducible refine Kd.C_drewN ?_ _) | (with_reducible refine Kd.C_drew ?_)))
                        (case side2 => exact (Kd.R_reads' HO_411002.out).2.1)
                        (case side3 => repeat (first | exact (Kd.R_reads' HO_412000.out).2.2 | (with_reducible refine Kd.C_alloc ?_ _) | (with_reducible refine Kd.C_drewN ?_ _) | (with_reducible refine Kd.C_drew ?_)))
                        (case side4 => exact (Kd.R_reads' HO_412000.out).2.1)
                        rintro e w74 ⟨rfl, hb⟩
                        have HS4_ := (hb.cell (World.block_lt_of_cell? _ _ (hHeld.2.2.2.2))).trans (hHeld.2.2.2.2)
                        refine ⟨_, rfl, ?_⟩
                        have n0_ := Aside0.mk (Kd.R_below (by (with_reducible repeat (first | apply Kd.R_alloc | apply Kd.R_drewN | apply Kd.R_drew)); exact HO_9.out) hb)
                        have n1_ := Aside0.mk (Kd.R_below (by (with_reducible repeat (first | apply Kd.R_alloc | apply Kd.R_drewN | apply Kd.R_drew)); exact HO_411002.out) hb)
                        have n2_ := Aside0.mk (Kd.R_below (by (with_reducible repeat (first | apply Kd.R_alloc | apply Kd.R_drewN | apply Kd.R_drew)); exact HO_412000.out) hb)
                        have n3_ := Aside0.mk (blk_below (g := gb410) (o := .cells #[.int .i64 t402, .int .i64 t403, .slice Ao37 t404.length co37] 31 (0, 0)) (by (with_reducible repeat (first | refine blk_drewN ?_ _ | refine blk_drew ?_ | refine blk_alloc ?_ _)); exact BK410.out) hb)
                        have n4_ := Aside0.mk (blk_below (g := gb411) (o := .cells #[.slice Ao38 t407.length co38] 40 (0, 0)) (by (with_reducible repeat (first | refine blk_drewN ?_ _ | refine blk_drew ?_ | refine blk_alloc ?_ _)); exact BK411.out) hb)
                        have n5_ := Aside0.mk (below_step (by repeat (first | (with_reducible first | exact HB.out | apply below_alloc | apply pw_below_drewN | apply below_drew1 | refine below_set ?_ GE410.out | refine below_set ?_ GE411.out) | exact HB.out)) hb)
                        clear HO_9
                        clear HO_411002
                        clear HO_412000
                        clear BK410
                        clear BK411
                        clear HB
                        have HO_9 := n0_
                        have HO_411002 := n1_
                        have HO_412000 := n2_
                        have BK410 := n3_
                        have BK411 := n4_
                        have HB := n5_
                        clear n0_ n1_ n2_ n3_ n4_ n5_
                        (try clear hb)
                        (try clear hb2)
                        (try clear hk)
                        (try clear hi)
                        refine hK.out _ _ ⟨(blk_cell BK410.out 0).trans rfl, (blk_cell BK410.out 1).trans rfl, (blk_cell BK410.out 2).trans rfl, (blk_cell BK411.out 0).trans rfl, HS4_⟩ (fun hHeld => ?_)
                        clear hK K
                        refine norm_ (a' := ?_) ?_ ?_
                        rotate_left
                        · show Act.put _ (some 110) _ = _
                          simp only [Act.put, List.setIfInBounds_toArray, List.set_cons_zero, List.set_cons_succ, i64_w, i32_w]
                          rfl
                        refine pure_ (i := 18) (N := some 115) (v := ?_) (a' := ?_) #[true, true, true, true, true, true, true, true, true, true, true, true, true, true, true, true, true, true, true, false, false] rfl rfl (any_of HT_.out (by kernel_rfl)) (fun _ _ _ h => h) (Or.inl ⟨by rfl, ?_⟩) ?_ ?_
                        rotate_left
                        · intro w'
                          go_simp
                          with_reducible rfl
                        rotate_left
                        · simp only [Act.put, List.setIfInBounds_toArray, List.set_cons_zero, List.set_cons_succ, i64_w, i32_w]
                          rfl
                        refine pure_ (i := 19) (N := some 116) (v := ?_) (a' := ?_) #[true, true, true, true, true, true, true, true, true, true, true, true, true, true, true, true, true, true, true, true, false] rfl rfl (any_of HT_.out (by kernel_rfl)) (fun _ _ _ h => h) (Or.inl ⟨by rfl, ?_⟩) ?_ ?_
                        rotate_left
                        · intro w'
                          go_simp
                          with_reducible rfl
                        rotate_left
                        · simp only [Act.put, List.setIfInBounds_toArray, List.set_cons_zero, List.set_cons_succ, i64_w, i32_w]
                          rfl
                        refine pure_ (i := 20) (N := some 2) (v := ?_) (a' := ?_) #[true, true, true, true, true, true, true, true, true, true, true, true, true, true, true, true, true, true, true, true, true] rfl rfl (any_of HT_.out (by kernel_rfl)) (fun _ _ _ h => h) (Or.inl ⟨by rfl, ?_⟩) ?_ ?_
                        rotate_left
                        · intro w'
                          go_simp
                          with_reducible rfl
                        rotate_left
                        · simp only [Act.put, List.setIfInBounds_toArray, List.set_cons_zero, List.set_cons_succ, i64_w, i32_w]
                          rfl
                        refine done_ (done_of HT_.out (by kernel_rfl)) ?_
                        try go_wp2
                        go_ret
                        exact ⟨by first | rfl | (simp [errW_none, errW_some] <;> rfl) | (simp [*, errW_none, errW_some] <;> rfl), by repeat (first | (with_reducible first | exact HB.out | apply below_alloc | apply pw_below_drewN | apply below_drew1 | refine below_set ?_ GE410.out | refine below_set ?_ GE411.out) | exact HB.out)⟩
                      · rw [if_neg c70] at H
                        exact absurd H (by simp)
                    · replace c68 := Bool.eq_false_iff.mpr c68
                      subst c68
                      have H1 : (some false) = some r := by rw [if_neg (show ¬ (false = true) by decide)] at H; exact H
                      clear H
                      have H := H1
                      clear H1
                      obtain rfl := Option.some.inj H
                      exact absurd HRT.out (by simp)
                  · replace c66 := Bool.eq_false_iff.mpr c66
                    subst c66
                    have H1 : (some false) = some r := by rw [if_neg (show ¬ (false = true) by decide)] at H; exact H
                    clear H
                    have H := H1
                    clear H1
                    obtain rfl := Option.some.inj H
                    exact absurd HRT.out (by simp)
        · rw [if_neg c8] at H
          exact absurd H (by simp)
    · rw [if_neg c6] at H
      exact absurd H (by simp)

/-- THE ONE PURE STATEMENT of laws_FnTableWalks. -/
def laws_FnTableWalks.Pure : Prop := ∀ (l0 : List Int), l0.length ≤ maxLen → l0.length * 1 ≤ 140737488351232 → (∀ y ∈ l0, (Lit.int .u8 y).wf = true) → ∃ k, laws_FnTableWalks.f k l0 = some true
theorem laws_FnTableWalks.walk (P : laws_FnTableWalks.Pure) (A0 : Option Addr) (c0 : Nat) (l0 : List Int) (w : World) (hr0 : Kd.C (Kd.int .u8) w A0 l0.length l0) (hc0 : l0.length ≤ c0) (hw0 : l0.length ≤ maxLen) (hw1 : l0.length * 1 ≤ 140737488351232) (hw2 : (∀ y ∈ l0, (Lit.int .u8 y).wf = true)) :
    Calls Try.prog 4 #[.slice A0 l0.length c0] w fun e w' => e = .returned (.bool true) ∧ Below w.heap.size w w' := by
  have h := P l0 hw0 hw1 hw2
  obtain ⟨k, h⟩ := h
  refine (laws_FnTableWalks.calls k A0 c0 l0 true w hr0 hc0 rfl h).mono ?_
  rintro e w' ⟨rfl, hd⟩
  exact ⟨rfl, hd⟩


end Go.Proofs.Ytiehmmannfambaa.X
