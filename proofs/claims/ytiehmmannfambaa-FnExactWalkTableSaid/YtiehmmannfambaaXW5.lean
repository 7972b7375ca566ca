/- What is proved: contracts of functions of the program (each: where its Lean function answers, the call returns that answer); written by a program of this session. -/
import Derived.Test.YtiehmmannfambaaXW0
import Derived.Test.YtiehmmannfambaaXW1
import Derived.Test.YtiehmmannfambaaXW2
import Derived.Test.YtiehmmannfambaaXW4
namespace Go.Proofs.Ytiehmmannfambaa.XW
open Go.RowKit Go.Proofs.YtiehmmannfambaaW.PrintWords Go.Proofs.YtiehmmannfambaaW.PrintLast Go.Proofs.YtiehmmannfambaaW.PrintMore
attribute [local go_sem] max2_int min2_int max_two min_two max_three min_three max_four min_four   -- for this text's walks alone
set_option linter.unusedVariables false
set_option linter.unusedSimpArgs false

/-! ### laws_FnExactWalkTable: function 10 -/
def laws_FnExactWalkTable.j0 : Nat → Int → Int → List Int → List Int → Bool → Int → Int → List Int → List Int → Option (Bool)
  | 0, _, _, _, _, _, _, _, _, _ => none
  | k + 1, x2, x3, x10, x13, x71, x287000, x287001, x287002, x288000 => if x71 = true then (some false) else ((laws_markIntS.f k x13 1).bind fun bt330 => ((laws_heldIntS.f k bt330.2 1).bind fun t332 => (if t332 < 0 then (some false) else (if t332 = bt330.1 then ((laws_toMesh.f k x287000 x287001 x287002).bind fun bt333 => ((laws_toTable.f k x288000).bind fun t338 => ((impl_WalkTable.f k bt333.1 bt333.2.1 bt333.2.2 t338 x2 x3).bind fun t341 => ((laws_eqIntS.f k t341 x10).bind fun t344 => (if t344 = true then ((laws_heldIntS.f k bt330.2 1).bind fun t345 => (if t345 < 0 then (some false) else (if t345 = bt330.1 then (some true) else (some false)))) else (some false)))))) else (some false)))))
def laws_FnExactWalkTable.f (k : Nat) (a0_0 : Int) (a0_1 : Int) (l0_2 : List Int) (l1_0 : List Int) (a2 : Int) (a3 : Int) : Option (Bool) := (laws_szMesh.f a0_0 a0_1 l0_2 1048576).bind fun t288 => (if t288 < 0 then (some true) else ((laws_szTable.f l1_0 t288).bind fun t289 => (if t289 < 0 then (some true) else ((laws_toMesh.f k a0_0 a0_1 l0_2).bind fun bt290 => ((laws_toTable.f k l1_0).bind fun t295 => ((spec_WalkTable.f k bt290.1 bt290.2.1 bt290.2.2 t295 a2 a3).bind fun t298 => ((laws_toMesh.f k a0_0 a0_1 l0_2).bind fun bt301 => ((laws_toTable.f k l1_0).bind fun t307 => ((impl_WalkTable.f k bt301.1 bt301.2.1 bt301.2.2 t307 a2 a3).bind fun t311 => ((laws_eqIntS.f k t311 t298).bind fun t314 => (if t314 = true then ((laws_toMesh.f k a0_0 a0_1 l0_2).bind fun bt315 => ((laws_eqMesh.f k bt301.1 bt301.2.1 bt301.2.2 bt315.1 bt315.2.1 bt315.2.2).bind fun t320 => (if t320 = true then ((laws_toTable.f k l1_0).bind fun t321 => ((laws_eqTable.f k t307 t321).bind fun t324 => (if t324 = true then ((laws_markMesh.f k bt301.1 bt301.2.1 bt301.2.2 1).bind fun bt325 => ((laws_markTable.f k t307 bt325.1).bind fun bt327 => (if bt327.1 < 0 then (laws_FnExactWalkTable.j0 k a2 a3 t298 t311 true a0_0 a0_1 l0_2 l1_0) else ((laws_eqIntS.f k t311 t298).bind fun t329 => (laws_FnExactWalkTable.j0 k a2 a3 t298 t311 (!t329) a0_0 a0_1 l0_2 l1_0))))) else (some false)))) else (some false)))) else (some false))))))))))))
theorem laws_FnExactWalkTable.mono_l : ∀ k, (∀ y0 y1 y2 y3 y4 y5 y6 y7 y8, LeO (laws_FnExactWalkTable.j0 k y0 y1 y2 y3 y4 y5 y6 y7 y8) (laws_FnExactWalkTable.j0 (k + 1) y0 y1 y2 y3 y4 y5 y6 y7 y8))
  | 0 => fun _ _ _ _ _ _ _ _ _ r h => by simp [laws_FnExactWalkTable.j0] at h
  | k + 1 => by
    have ih0 := laws_FnExactWalkTable.mono_l k
    · intro y0 y1 y2 y3 y4 y5 y6 y7 y8
      unfold laws_FnExactWalkTable.j0
      repeat' first
      | (with_reducible exact ih0 _ _ _ _ _ _ _ _ _)
      | (with_reducible exact impl_WalkTable.mono _ _ _ _ _ _ _)
      | (with_reducible exact laws_eqIntS.mono _ _ _)
      | (with_reducible exact laws_eqMesh.mono _ _ _ _ _ _ _)
      | (with_reducible exact laws_eqTable.mono _ _ _)
      | (with_reducible exact laws_heldIntS.mono _ _ _)
      | (with_reducible exact laws_markIntS.mono _ _ _)
      | (with_reducible exact laws_markMesh.mono _ _ _ _ _)
      | (with_reducible exact laws_markTable.mono _ _ _)
      | (with_reducible exact laws_toMesh.mono _ _ _ _)
      | (with_reducible exact laws_toTable.mono _ _)
      | (with_reducible exact spec_WalkTable.mono _ _ _ _ _ _ _)
      | (with_reducible exact LeO.refl _)
      | (with_reducible exact LeO.none _)
      | (with_reducible refine LeO.ite ?_ ?_)
      | (with_reducible refine LeO.bind ?_ (fun _ => ?_))
      | exact ih0 _ _ _ _ _ _ _ _ _
      | exact impl_WalkTable.mono _ _ _ _ _ _ _
      | exact laws_eqIntS.mono _ _ _
      | exact laws_eqMesh.mono _ _ _ _ _ _ _
      | exact laws_eqTable.mono _ _ _
      | exact laws_heldIntS.mono _ _ _
      | exact laws_markIntS.mono _ _ _
      | exact laws_markMesh.mono _ _ _ _ _
      | exact laws_markTable.mono _ _ _
      | exact laws_toMesh.mono _ _ _ _
      | exact laws_toTable.mono _ _
      | exact spec_WalkTable.mono _ _ _ _ _ _ _
      | exact LeO.none _
      | refine LeO.ite ?_ ?_
      | refine LeO.bind ?_ (fun _ => ?_)
theorem laws_FnExactWalkTable.mono : ∀ a0 a1 a2 a3 a4 a5 k, LeO (laws_FnExactWalkTable.f k a0 a1 a2 a3 a4 a5) (laws_FnExactWalkTable.f (k + 1) a0 a1 a2 a3 a4 a5) := by
  intro a0 a1 a2 a3 a4 a5 k
  have ih0 := laws_FnExactWalkTable.mono_l k
  unfold laws_FnExactWalkTable.f
  repeat' first
      | (with_reducible exact ih0 _ _ _ _ _ _ _ _ _)
      | (with_reducible exact impl_WalkTable.mono _ _ _ _ _ _ _)
      | (with_reducible exact laws_eqIntS.mono _ _ _)
      | (with_reducible exact laws_eqMesh.mono _ _ _ _ _ _ _)
      | (with_reducible exact laws_eqTable.mono _ _ _)
      | (with_reducible exact laws_heldIntS.mono _ _ _)
      | (with_reducible exact laws_markIntS.mono _ _ _)
      | (with_reducible exact laws_markMesh.mono _ _ _ _ _)
      | (with_reducible exact laws_markTable.mono _ _ _)
      | (with_reducible exact laws_toMesh.mono _ _ _ _)
      | (with_reducible exact laws_toTable.mono _ _)
      | (with_reducible exact spec_WalkTable.mono _ _ _ _ _ _ _)
      | (with_reducible exact LeO.refl _)
      | (with_reducible exact LeO.none _)
      | (with_reducible refine LeO.ite ?_ ?_)
      | (with_reducible refine LeO.bind ?_ (fun _ => ?_))
      | exact ih0 _ _ _ _ _ _ _ _ _
      | exact impl_WalkTable.mono _ _ _ _ _ _ _
      | exact laws_eqIntS.mono _ _ _
      | exact laws_eqMesh.mono _ _ _ _ _ _ _
      | exact laws_eqTable.mono _ _ _
      | exact laws_heldIntS.mono _ _ _
      | exact laws_markIntS.mono _ _ _
      | exact laws_markMesh.mono _ _ _ _ _
      | exact laws_markTable.mono _ _ _
      | exact laws_toMesh.mono _ _ _ _
      | exact laws_toTable.mono _ _
      | exact spec_WalkTable.mono _ _ _ _ _ _ _
      | exact LeO.none _
      | refine LeO.ite ?_ ?_
      | refine LeO.bind ?_ (fun _ => ?_)
def laws_FnExactWalkTable.T8 : Bool × List (List Nat × List Nat) := (true, [([], []), ([0], [0]), ([], []), ([2, 1], [2]), ([], []), ([], []), ([1, 3, 4, 5, 3], [1, 3, 4, 5]), ([6, 6, 0, 1, 2, 3, 4, 5, 6], [6])])
def laws_FnExactWalkTable.B8 : List Nat := [0, 1, 0, 7, 0, 0, 63, 127]
theorem laws_FnExactWalkTable.tab8 : rtab .any (opsOf Try.f10 8) = laws_FnExactWalkTable.T8 := by kernel_rfl
theorem laws_FnExactWalkTable.bits8 : waitsOk laws_FnExactWalkTable.T8.2 laws_FnExactWalkTable.B8 = true := by kernel_rfl
def laws_FnExactWalkTable.T31 : Bool × List (List Nat × List Nat) := (true, [([], []), ([0], [0]), ([], []), ([2, 1], [2]), ([], []), ([], []), ([1, 3, 4, 5, 3], [1, 3, 4, 5]), ([6, 6, 0, 1, 2, 3, 4, 5, 6], [6])])
def laws_FnExactWalkTable.B31 : List Nat := [0, 1, 0, 7, 0, 0, 63, 127]
theorem laws_FnExactWalkTable.tab31 : rtab .any (opsOf Try.f10 31) = laws_FnExactWalkTable.T31 := by kernel_rfl
theorem laws_FnExactWalkTable.bits31 : waitsOk laws_FnExactWalkTable.T31.2 laws_FnExactWalkTable.B31 = true := by kernel_rfl
set_option maxHeartbeats 8000000 in
set_option maxRecDepth 100000 in
theorem laws_FnExactWalkTable.calls (k : Nat) (a0_0 : Int) (a0_1 : Int) (A0_2 : Option Addr) (c0_2 : Nat) (l0_2 : List Int) (A1_0 : Option Addr) (c1_0 : Nat) (l1_0 : List Int) (a2 : Int) (a3 : Int) (r : Bool) (w : World) (hr0_2 : Kd.C (Kd.int .i64) w A0_2 l0_2.length l0_2) (hc0_2 : l0_2.length ≤ c0_2) (hr1_0 : Kd.C (Kd.int .i64) w A1_0 l1_0.length l1_0) (hc1_0 : l1_0.length ≤ c1_0) (hrt0 : r = true) (h : laws_FnExactWalkTable.f k a0_0 a0_1 l0_2 l1_0 a2 a3 = some r) :
    Calls Try.prog 10 #[.agg #[.int .i64 a0_0, .int .i64 a0_1, .slice A0_2 l0_2.length c0_2], .agg #[.slice A1_0 l1_0.length c1_0], .int .i64 a2, .int .i64 a3] w fun e w' => e = .returned (.bool r) ∧ Below w.heap.size w w' := by
  have hu26 := Try.underlying26
  have hu56 := Try.underlying56
  have hu31 := Try.underlying31
  have hu40 := Try.underlying40
  have HRT := Aside0.mk hrt0
  clear hrt0
  have HR0_2 := Aside0.mk hr0_2
  have HC0_2 := Aside0.mk hc0_2
  clear hr0_2 hc0_2
  have HR1_0 := Aside0.mk hr1_0
  have HC1_0 := Aside0.mk hc1_0
  clear hr1_0 hc1_0
  have HB := Aside0.mk (Below.refl w.heap.size w)
  have H : ((laws_szMesh.f a0_0 a0_1 l0_2 1048576).bind fun t288 => (if t288 < 0 then (some true) else ((laws_szTable.f l1_0 t288).bind fun t289 => (if t289 < 0 then (some true) else ((laws_toMesh.f k a0_0 a0_1 l0_2).bind fun bt290 => ((laws_toTable.f k l1_0).bind fun t295 => ((spec_WalkTable.f k bt290.1 bt290.2.1 bt290.2.2 t295 a2 a3).bind fun t298 => ((laws_toMesh.f k a0_0 a0_1 l0_2).bind fun bt301 => ((laws_toTable.f k l1_0).bind fun t307 => ((impl_WalkTable.f k bt301.1 bt301.2.1 bt301.2.2 t307 a2 a3).bind fun t311 => ((laws_eqIntS.f k t311 t298).bind fun t314 => (if t314 = true then ((laws_toMesh.f k a0_0 a0_1 l0_2).bind fun bt315 => ((laws_eqMesh.f k bt301.1 bt301.2.1 bt301.2.2 bt315.1 bt315.2.1 bt315.2.2).bind fun t320 => (if t320 = true then ((laws_toTable.f k l1_0).bind fun t321 => ((laws_eqTable.f k t307 t321).bind fun t324 => (if t324 = true then ((laws_markMesh.f k bt301.1 bt301.2.1 bt301.2.2 1).bind fun bt325 => ((laws_markTable.f k t307 bt325.1).bind fun bt327 => (if bt327.1 < 0 then (laws_FnExactWalkTable.j0 k a2 a3 t298 t311 true a0_0 a0_1 l0_2 l1_0) else ((laws_eqIntS.f k t311 t298).bind fun t329 => (laws_FnExactWalkTable.j0 k a2 a3 t298 t311 (!t329) a0_0 a0_1 l0_2 l1_0))))) else (some false)))) else (some false)))) else (some false))))))))))))) = some r := h
  clear h
  replace H := Option.bind_eq_some_iff.mp H
  obtain ⟨t288, A50, H⟩ := H
  replace H : (if t288 < 0 then (some true) else ((laws_szTable.f l1_0 t288).bind fun t289 => (if t289 < 0 then (some true) else ((laws_toMesh.f k a0_0 a0_1 l0_2).bind fun bt290 => ((laws_toTable.f k l1_0).bind fun t295 => ((spec_WalkTable.f k bt290.1 bt290.2.1 bt290.2.2 t295 a2 a3).bind fun t298 => ((laws_toMesh.f k a0_0 a0_1 l0_2).bind fun bt301 => ((laws_toTable.f k l1_0).bind fun t307 => ((impl_WalkTable.f k bt301.1 bt301.2.1 bt301.2.2 t307 a2 a3).bind fun t311 => ((laws_eqIntS.f k t311 t298).bind fun t314 => (if t314 = true then ((laws_toMesh.f k a0_0 a0_1 l0_2).bind fun bt315 => ((laws_eqMesh.f k bt301.1 bt301.2.1 bt301.2.2 bt315.1 bt315.2.1 bt315.2.2).bind fun t320 => (if t320 = true then ((laws_toTable.f k l1_0).bind fun t321 => ((laws_eqTable.f k t307 t321).bind fun t324 => (if t324 = true then ((laws_markMesh.f k bt301.1 bt301.2.1 bt301.2.2 1).bind fun bt325 => ((laws_markTable.f k t307 bt325.1).bind fun bt327 => (if bt327.1 < 0 then (laws_FnExactWalkTable.j0 k a2 a3 t298 t311 true a0_0 a0_1 l0_2 l1_0) else ((laws_eqIntS.f k t311 t298).bind fun t329 => (laws_FnExactWalkTable.j0 k a2 a3 t298 t311 (!t329) a0_0 a0_1 l0_2 l1_0))))) else (some false)))) else (some false)))) else (some false)))))))))))) = some r := H
  have A5 := Aside0.mk A50
  clear A50
  by_cases c6 : t288 < 0
  · rw [if_pos c6] at H
    have c6b0 : decide (t288 < 0) = true := decide_eq_true c6
    clear c6
    obtain rfl := Option.some.inj H
    go_enter Try.func10, Try.ntmps10
    go_wp2_with (first | ((with_reducible refine gate_dst (N := 4) rfl ?_); refine box_event ?hg (N := 4) ?hd (cs := #[.int .i64 a0_0, .int .i64 a0_1, .slice A0_2 l0_2.length c0_2]) (t := 26) ?hr ?_; (case hd => rfl); (case hg => rfl); (case hr => first | (go_simp; done) | (go_simp; rfl)); intro gb286 hg w7 hbox hb; have n0_ := Aside0.mk (below_step (by repeat (first | (with_reducible first | exact HB.out | apply below_alloc | apply pw_below_drewN | apply below_drew1) | exact HB.out)) hb); have n1_ := Aside0.mk (hbox); have n2_ := Aside0.mk ((by rw [hg]; exact (below_size (by repeat (first | (with_reducible first | exact HB.out | apply below_alloc | apply pw_below_drewN | apply below_drew1) | exact HB.out))) : w.heap.size ≤ gb286)); have n3_ := Aside0.mk ((by rw [hg]; exact (below_size (by repeat (first | (with_reducible first | exact HB.out | apply below_alloc | apply pw_below_drewN | apply below_drew1) | exact HB.out))) : w.heap.size ≤ gb286)); clear HB; have HB := n0_; have BK286 := n1_; have GW286 := n2_; have GE286 := n3_; clear n0_ n1_ n2_ n3_; clear hb hbox hg) | ((with_reducible refine gate_dst (N := 5) rfl ?_); refine box_event ?hg (N := 5) ?hd (cs := #[.slice A1_0 l1_0.length c1_0]) (t := 56) ?hr ?_; (case hd => rfl); (case hg => rfl); (case hr => first | (go_simp; done) | (go_simp; rfl)); intro gb287 hg w8 hbox hb; have n0_ := Aside0.mk (blk_below (g := gb286) (o := .cells #[.int .i64 a0_0, .int .i64 a0_1, .slice A0_2 l0_2.length c0_2] 26 (0, 0)) (by (with_reducible repeat (first | refine blk_drewN ?_ _ | refine blk_drew ?_ | refine blk_alloc ?_ _)); exact BK286.out) hb); have n1_ := Aside0.mk (below_step (by repeat (first | (with_reducible first | exact HB.out | apply below_alloc | apply pw_below_drewN | apply below_drew1 | refine below_set ?_ GE286.out) | exact HB.out)) hb); have n2_ := Aside0.mk (hbox); have n3_ := Aside0.mk ((by rw [hg]; exact (below_size (by repeat (first | (with_reducible first | exact HB.out | apply below_alloc | apply pw_below_drewN | apply below_drew1 | refine below_set ?_ GE286.out) | exact HB.out))) : w.heap.size ≤ gb287)); have n4_ := Aside0.mk ((by rw [hg]; exact (below_size (by repeat (first | (with_reducible first | exact HB.out | apply below_alloc | apply pw_below_drewN | apply below_drew1 | refine below_set ?_ GE286.out) | exact HB.out))) : w.heap.size ≤ gb287)); have n5_ := Aside0.mk ((by rw [hg]; exact Nat.ne_of_lt (blk_lt (g := gb286) (o := .cells #[.int .i64 a0_0, .int .i64 a0_1, .slice A0_2 l0_2.length c0_2] 26 (0, 0)) (by (with_reducible repeat (first | refine blk_drewN ?_ _ | refine blk_drew ?_ | refine blk_alloc ?_ _)); exact BK286.out)) : gb286 ≠ gb287)); have n6_ := Aside0.mk ((by rw [hg]; exact Nat.ne_of_gt (blk_lt (g := gb286) (o := .cells #[.int .i64 a0_0, .int .i64 a0_1, .slice A0_2 l0_2.length c0_2] 26 (0, 0)) (by (with_reducible repeat (first | refine blk_drewN ?_ _ | refine blk_drew ?_ | refine blk_alloc ?_ _)); exact BK286.out)) : gb287 ≠ gb286)); clear BK286; clear HB; have BK286 := n0_; have HB := n1_; have BK287 := n2_; have GW287 := n3_; have GE287 := n4_; have NB286_287 := n5_; have NB287_286 := n6_; clear n0_ n1_ n2_ n3_ n4_ n5_ n6_; clear hb hbox hg; have hnb9 := NB286_287.out; have hnc9 := NB287_286.out; have hcz10_0 : w8.cell? ⟨gb286, 0, none⟩ = some (.int .i64 a0_0) := (blk_cell BK286.out 0).trans rfl; have hcz10_1 : w8.cell? ⟨gb286, 1, none⟩ = some (.int .i64 a0_1) := (blk_cell BK286.out 1).trans rfl; have hcz10_2 : w8.cell? ⟨gb286, 2, none⟩ = some (.slice A0_2 l0_2.length c0_2) := (blk_cell BK286.out 2).trans rfl; have hfz10_0 := blk_frozen BK286.out 0; have hfz10_1 := blk_frozen BK286.out 1; have hfz10_2 := blk_frozen BK286.out 2) | ((with_reducible refine gate_callee (f := 11) rfl ?_); refine goesL_ (some 20) rfl rfl Try.func11 (by kernel_rfl) rfl #[.agg #[.int .i64 a0_0, .int .i64 a0_1, .slice A0_2 l0_2.length c0_2], .int .i64 1048576] rfl (by (try simp only [List.map_toArray, List.map_cons, List.map_nil]); first | done | rfl | (simp only [List.length_drop, List.length_take]; rfl)) ?_; (with_reducible refine (laws_szMesh.calls a0_0 a0_1 _ _ l0_2 1048576 t288 _ ?side1 ?side2 A5.out).mono ?_); (case side1 => repeat (first | exact (Kd.C_below HR0_2.out HB.out) | (with_reducible refine Kd.C_alloc ?_ _) | (with_reducible refine Kd.C_drewN ?_ _) | (with_reducible refine Kd.C_drew ?_))); (case side2 => exact HC0_2.out); rintro e w11 ⟨rfl, hb⟩; refine ⟨_, rfl, ?_⟩; have n0_ := Aside0.mk (blk_below (g := gb286) (o := .cells #[.int .i64 a0_0, .int .i64 a0_1, .slice A0_2 l0_2.length c0_2] 26 (0, 0)) (by (with_reducible repeat (first | refine blk_drewN ?_ _ | refine blk_drew ?_ | refine blk_alloc ?_ _)); exact BK286.out) hb); have n1_ := Aside0.mk (blk_below (g := gb287) (o := .cells #[.slice A1_0 l1_0.length c1_0] 56 (0, 0)) (by (with_reducible repeat (first | refine blk_drewN ?_ _ | refine blk_drew ?_ | refine blk_alloc ?_ _)); exact BK287.out) hb); have n2_ := Aside0.mk (below_step (by repeat (first | (with_reducible first | exact HB.out | apply below_alloc | apply pw_below_drewN | apply below_drew1 | refine below_set ?_ GE286.out | refine below_set ?_ GE287.out) | exact HB.out)) hb); clear BK286; clear BK287; clear HB; have BK286 := n0_; have BK287 := n1_; have HB := n2_; clear n0_ n1_ n2_; (try clear hb); (try clear hb2); (try clear hk); (try clear hi)))
    go_ret
    exact ⟨by first | rfl | (simp [errW_none, errW_some] <;> rfl) | (simp [*, errW_none, errW_some] <;> rfl), by repeat (first | (with_reducible first | exact HB.out | apply below_alloc | apply pw_below_drewN | apply below_drew1 | refine below_set ?_ GE286.out | refine below_set ?_ GE287.out) | exact HB.out)⟩
  · rw [if_neg c6] at H
    have c6b0 : decide (t288 < 0) = false := decide_eq_false c6
    clear c6
    replace H := Option.bind_eq_some_iff.mp H
    obtain ⟨t289, A120, H⟩ := H
    replace H : (if t289 < 0 then (some true) else ((laws_toMesh.f k a0_0 a0_1 l0_2).bind fun bt290 => ((laws_toTable.f k l1_0).bind fun t295 => ((spec_WalkTable.f k bt290.1 bt290.2.1 bt290.2.2 t295 a2 a3).bind fun t298 => ((laws_toMesh.f k a0_0 a0_1 l0_2).bind fun bt301 => ((laws_toTable.f k l1_0).bind fun t307 => ((impl_WalkTable.f k bt301.1 bt301.2.1 bt301.2.2 t307 a2 a3).bind fun t311 => ((laws_eqIntS.f k t311 t298).bind fun t314 => (if t314 = true then ((laws_toMesh.f k a0_0 a0_1 l0_2).bind fun bt315 => ((laws_eqMesh.f k bt301.1 bt301.2.1 bt301.2.2 bt315.1 bt315.2.1 bt315.2.2).bind fun t320 => (if t320 = true then ((laws_toTable.f k l1_0).bind fun t321 => ((laws_eqTable.f k t307 t321).bind fun t324 => (if t324 = true then ((laws_markMesh.f k bt301.1 bt301.2.1 bt301.2.2 1).bind fun bt325 => ((laws_markTable.f k t307 bt325.1).bind fun bt327 => (if bt327.1 < 0 then (laws_FnExactWalkTable.j0 k a2 a3 t298 t311 true a0_0 a0_1 l0_2 l1_0) else ((laws_eqIntS.f k t311 t298).bind fun t329 => (laws_FnExactWalkTable.j0 k a2 a3 t298 t311 (!t329) a0_0 a0_1 l0_2 l1_0))))) else (some false)))) else (some false)))) else (some false)))))))))) = some r := H
    have A12 := Aside0.mk A120
    clear A120
    by_cases c13 : t289 < 0
    · rw [if_pos c13] at H
      have c13b0 : decide (t289 < 0) = true := decide_eq_true c13
      clear c13
      obtain rfl := Option.some.inj H
      go_enter Try.func10, Try.ntmps10
      go_wp2_with (first | ((with_reducible refine gate_dst (N := 4) rfl ?_); refine box_event ?hg (N := 4) ?hd (cs := #[.int .i64 a0_0, .int .i64 a0_1, .slice A0_2 l0_2.length c0_2]) (t := 26) ?hr ?_; (case hd => rfl); (case hg => rfl); (case hr => first | (go_simp; done) | (go_simp; rfl)); intro gb286 hg w14 hbox hb; have n0_ := Aside0.mk (below_step (by repeat (first | (with_reducible first | exact HB.out | apply below_alloc | apply pw_below_drewN | apply below_drew1) | exact HB.out)) hb); have n1_ := Aside0.mk (hbox); have n2_ := Aside0.mk ((by rw [hg]; exact (below_size (by repeat (first | (with_reducible first | exact HB.out | apply below_alloc | apply pw_below_drewN | apply below_drew1) | exact HB.out))) : w.heap.size ≤ gb286)); have n3_ := Aside0.mk ((by rw [hg]; exact (below_size (by repeat (first | (with_reducible first | exact HB.out | apply below_alloc | apply pw_below_drewN | apply below_drew1) | exact HB.out))) : w.heap.size ≤ gb286)); clear HB; have HB := n0_; have BK286 := n1_; have GW286 := n2_; have GE286 := n3_; clear n0_ n1_ n2_ n3_; clear hb hbox hg) | ((with_reducible refine gate_dst (N := 5) rfl ?_); refine box_event ?hg (N := 5) ?hd (cs := #[.slice A1_0 l1_0.length c1_0]) (t := 56) ?hr ?_; (case hd => rfl); (case hg => rfl); (case hr => first | (go_simp; done) | (go_simp; rfl)); intro gb287 hg w15 hbox hb; have n0_ := Aside0.mk (blk_below (g := gb286) (o := .cells #[.int .i64 a0_0, .int .i64 a0_1, .slice A0_2 l0_2.length c0_2] 26 (0, 0)) (by (with_reducible repeat (first | refine blk_drewN ?_ _ | refine blk_drew ?_ | refine blk_alloc ?_ _)); exact BK286.out) hb); have n1_ := Aside0.mk (below_step (by repeat (first | (with_reducible first | exact HB.out | apply below_alloc | apply pw_below_drewN | apply below_drew1 | refine below_set ?_ GE286.out) | exact HB.out)) hb); have n2_ := Aside0.mk (hbox); have n3_ := Aside0.mk ((by rw [hg]; exact (below_size (by repeat (first | (with_reducible first | exact HB.out | apply below_alloc | apply pw_below_drewN | apply below_drew1 | refine below_set ?_ GE286.out) | exact HB.out))) : w.heap.size ≤ gb287)); have n4_ := Aside0.mk ((by rw [hg]; exact (below_size (by repeat (first | (with_reducible first | exact HB.out | apply below_alloc | apply pw_below_drewN | apply below_drew1 | refine below_set ?_ GE286.out) | exact HB.out))) : w.heap.size ≤ gb287)); have n5_ := Aside0.mk ((by rw [hg]; exact Nat.ne_of_lt (blk_lt (g := gb286) (o := .cells #[.int .i64 a0_0, .int .i64 a0_1, .slice A0_2 l0_2.length c0_2] 26 (0, 0)) (by (with_reducible repeat (first | refine blk_drewN ?_ _ | refine blk_drew ?_ | refine blk_alloc ?_ _)); exact BK286.out)) : gb286 ≠ gb287)); have n6_ := Aside0.mk ((by rw [hg]; exact Nat.ne_of_gt (blk_lt (g := gb286) (o := .cells #[.int .i64 a0_0, .int .i64 a0_1, .slice A0_2 l0_2.length c0_2] 26 (0, 0)) (by (with_reducible repeat (first | refine blk_drewN ?_ _ | refine blk_drew ?_ | refine blk_alloc ?_ _)); exact BK286.out)) : gb287 ≠ gb286)); clear BK286; clear HB; have BK286 := n0_; have HB := n1_; have BK287 := n2_; have GW287 := n3_; have GE287 := n4_; have NB286_287 := n5_; have NB287_286 := n6_; clear n0_ n1_ n2_ n3_ n4_ n5_ n6_; clear hb hbox hg; have hnb16 := NB286_287.out; have hnc16 := NB287_286.out; have hcz17_0 : w15.cell? ⟨gb286, 0, none⟩ = some (.int .i64 a0_0) := (blk_cell BK286.out 0).trans rfl; have hcz17_1 : w15.cell? ⟨gb286, 1, none⟩ = some (.int .i64 a0_1) := (blk_cell BK286.out 1).trans rfl; have hcz17_2 : w15.cell? ⟨gb286, 2, none⟩ = some (.slice A0_2 l0_2.length c0_2) := (blk_cell BK286.out 2).trans rfl; have hfz17_0 := blk_frozen BK286.out 0; have hfz17_1 := blk_frozen BK286.out 1; have hfz17_2 := blk_frozen BK286.out 2) | ((with_reducible refine gate_callee (f := 11) rfl ?_); refine goesL_ (some 20) rfl rfl Try.func11 (by kernel_rfl) rfl #[.agg #[.int .i64 a0_0, .int .i64 a0_1, .slice A0_2 l0_2.length c0_2], .int .i64 1048576] rfl (by (try simp only [List.map_toArray, List.map_cons, List.map_nil]); first | done | rfl | (simp only [List.length_drop, List.length_take]; rfl)) ?_; (with_reducible refine (laws_szMesh.calls a0_0 a0_1 _ _ l0_2 1048576 t288 _ ?side1 ?side2 A5.out).mono ?_); (case side1 => repeat (first | exact (Kd.C_below HR0_2.out HB.out) | (with_reducible refine Kd.C_alloc ?_ _) | (with_reducible refine Kd.C_drewN ?_ _) | (with_reducible refine Kd.C_drew ?_))); (case side2 => exact HC0_2.out); rintro e w18 ⟨rfl, hb⟩; refine ⟨_, rfl, ?_⟩; have n0_ := Aside0.mk (blk_below (g := gb286) (o := .cells #[.int .i64 a0_0, .int .i64 a0_1, .slice A0_2 l0_2.length c0_2] 26 (0, 0)) (by (with_reducible repeat (first | refine blk_drewN ?_ _ | refine blk_drew ?_ | refine blk_alloc ?_ _)); exact BK286.out) hb); have n1_ := Aside0.mk (blk_below (g := gb287) (o := .cells #[.slice A1_0 l1_0.length c1_0] 56 (0, 0)) (by (with_reducible repeat (first | refine blk_drewN ?_ _ | refine blk_drew ?_ | refine blk_alloc ?_ _)); exact BK287.out) hb); have n2_ := Aside0.mk (below_step (by repeat (first | (with_reducible first | exact HB.out | apply below_alloc | apply pw_below_drewN | apply below_drew1 | refine below_set ?_ GE286.out | refine below_set ?_ GE287.out) | exact HB.out)) hb); clear BK286; clear BK287; clear HB; have BK286 := n0_; have BK287 := n1_; have HB := n2_; clear n0_ n1_ n2_; (try clear hb); (try clear hb2); (try clear hk); (try clear hi); have hcz19_0 : w18.cell? ⟨gb287, 0, none⟩ = some (.slice A1_0 l1_0.length c1_0) := (blk_cell BK287.out 0).trans rfl; have hfz19_0 := blk_frozen BK287.out 0) | ((with_reducible refine gate_callee (f := 37) rfl ?_); refine goesL_ (some 25) rfl rfl Try.func37 (by kernel_rfl) rfl #[.agg #[.slice A1_0 l1_0.length c1_0], .int .i64 t288] rfl (by (try simp only [List.map_toArray, List.map_cons, List.map_nil]); first | done | rfl | (simp only [List.length_drop, List.length_take]; rfl)) ?_; (with_reducible refine (laws_szTable.calls _ _ l1_0 t288 t289 _ ?side1 ?side2 A12.out).mono ?_); (case side1 => repeat (first | exact (Kd.C_below HR1_0.out HB.out) | (with_reducible refine Kd.C_alloc ?_ _) | (with_reducible refine Kd.C_drewN ?_ _) | (with_reducible refine Kd.C_drew ?_))); (case side2 => exact HC1_0.out); rintro e w20 ⟨rfl, hb⟩; refine ⟨_, rfl, ?_⟩; have n0_ := Aside0.mk (blk_below (g := gb286) (o := .cells #[.int .i64 a0_0, .int .i64 a0_1, .slice A0_2 l0_2.length c0_2] 26 (0, 0)) (by (with_reducible repeat (first | refine blk_drewN ?_ _ | refine blk_drew ?_ | refine blk_alloc ?_ _)); exact BK286.out) hb); have n1_ := Aside0.mk (blk_below (g := gb287) (o := .cells #[.slice A1_0 l1_0.length c1_0] 56 (0, 0)) (by (with_reducible repeat (first | refine blk_drewN ?_ _ | refine blk_drew ?_ | refine blk_alloc ?_ _)); exact BK287.out) hb); have n2_ := Aside0.mk (below_step (by repeat (first | (with_reducible first | exact HB.out | apply below_alloc | apply pw_below_drewN | apply below_drew1 | refine below_set ?_ GE286.out | refine below_set ?_ GE287.out) | exact HB.out)) hb); clear BK286; clear BK287; clear HB; have BK286 := n0_; have BK287 := n1_; have HB := n2_; clear n0_ n1_ n2_; (try clear hb); (try clear hb2); (try clear hk); (try clear hi)))
      go_ret
      exact ⟨by first | rfl | (simp [errW_none, errW_some] <;> rfl) | (simp [*, errW_none, errW_some] <;> rfl), by repeat (first | (with_reducible first | exact HB.out | apply below_alloc | apply pw_below_drewN | apply below_drew1 | refine below_set ?_ GE286.out | refine below_set ?_ GE287.out) | exact HB.out)⟩
    · rw [if_neg c13] at H
      have c13b0 : decide (t289 < 0) = false := decide_eq_false c13
      clear c13
      replace H := Option.bind_eq_some_iff.mp H
      obtain ⟨⟨t290, t291, t292⟩, A210, H⟩ := H
      replace H : ((laws_toTable.f k l1_0).bind fun t295 => ((spec_WalkTable.f k t290 t291 t292 t295 a2 a3).bind fun t298 => ((laws_toMesh.f k a0_0 a0_1 l0_2).bind fun bt301 => ((laws_toTable.f k l1_0).bind fun t307 => ((impl_WalkTable.f k bt301.1 bt301.2.1 bt301.2.2 t307 a2 a3).bind fun t311 => ((laws_eqIntS.f k t311 t298).bind fun t314 => (if t314 = true then ((laws_toMesh.f k a0_0 a0_1 l0_2).bind fun bt315 => ((laws_eqMesh.f k bt301.1 bt301.2.1 bt301.2.2 bt315.1 bt315.2.1 bt315.2.2).bind fun t320 => (if t320 = true then ((laws_toTable.f k l1_0).bind fun t321 => ((laws_eqTable.f k t307 t321).bind fun t324 => (if t324 = true then ((laws_markMesh.f k bt301.1 bt301.2.1 bt301.2.2 1).bind fun bt325 => ((laws_markTable.f k t307 bt325.1).bind fun bt327 => (if bt327.1 < 0 then (laws_FnExactWalkTable.j0 k a2 a3 t298 t311 true a0_0 a0_1 l0_2 l1_0) else ((laws_eqIntS.f k t311 t298).bind fun t329 => (laws_FnExactWalkTable.j0 k a2 a3 t298 t311 (!t329) a0_0 a0_1 l0_2 l1_0))))) else (some false)))) else (some false)))) else (some false)))))))) = some r := H
      have A21 := Aside0.mk A210
      clear A210
      replace H := Option.bind_eq_some_iff.mp H
      obtain ⟨t295, A220, H⟩ := H
      replace H : ((spec_WalkTable.f k t290 t291 t292 t295 a2 a3).bind fun t298 => ((laws_toMesh.f k a0_0 a0_1 l0_2).bind fun bt301 => ((laws_toTable.f k l1_0).bind fun t307 => ((impl_WalkTable.f k bt301.1 bt301.2.1 bt301.2.2 t307 a2 a3).bind fun t311 => ((laws_eqIntS.f k t311 t298).bind fun t314 => (if t314 = true then ((laws_toMesh.f k a0_0 a0_1 l0_2).bind fun bt315 => ((laws_eqMesh.f k bt301.1 bt301.2.1 bt301.2.2 bt315.1 bt315.2.1 bt315.2.2).bind fun t320 => (if t320 = true then ((laws_toTable.f k l1_0).bind fun t321 => ((laws_eqTable.f k t307 t321).bind fun t324 => (if t324 = true then ((laws_markMesh.f k bt301.1 bt301.2.1 bt301.2.2 1).bind fun bt325 => ((laws_markTable.f k t307 bt325.1).bind fun bt327 => (if bt327.1 < 0 then (laws_FnExactWalkTable.j0 k a2 a3 t298 t311 true a0_0 a0_1 l0_2 l1_0) else ((laws_eqIntS.f k t311 t298).bind fun t329 => (laws_FnExactWalkTable.j0 k a2 a3 t298 t311 (!t329) a0_0 a0_1 l0_2 l1_0))))) else (some false)))) else (some false)))) else (some false))))))) = some r := H
      have A22 := Aside0.mk A220
      clear A220
      replace H := Option.bind_eq_some_iff.mp H
      obtain ⟨t298, A230, H⟩ := H
      replace H : ((laws_toMesh.f k a0_0 a0_1 l0_2).bind fun bt301 => ((laws_toTable.f k l1_0).bind fun t307 => ((impl_WalkTable.f k bt301.1 bt301.2.1 bt301.2.2 t307 a2 a3).bind fun t311 => ((laws_eqIntS.f k t311 t298).bind fun t314 => (if t314 = true then ((laws_toMesh.f k a0_0 a0_1 l0_2).bind fun bt315 => ((laws_eqMesh.f k bt301.1 bt301.2.1 bt301.2.2 bt315.1 bt315.2.1 bt315.2.2).bind fun t320 => (if t320 = true then ((laws_toTable.f k l1_0).bind fun t321 => ((laws_eqTable.f k t307 t321).bind fun t324 => (if t324 = true then ((laws_markMesh.f k bt301.1 bt301.2.1 bt301.2.2 1).bind fun bt325 => ((laws_markTable.f k t307 bt325.1).bind fun bt327 => (if bt327.1 < 0 then (laws_FnExactWalkTable.j0 k a2 a3 t298 t311 true a0_0 a0_1 l0_2 l1_0) else ((laws_eqIntS.f k t311 t298).bind fun t329 => (laws_FnExactWalkTable.j0 k a2 a3 t298 t311 (!t329) a0_0 a0_1 l0_2 l1_0))))) else (some false)))) else (some false)))) else (some false)))))) = some r := H
      have A23 := Aside0.mk A230
      clear A230
      replace H := Option.bind_eq_some_iff.mp H
      obtain ⟨⟨t301, t302, t303⟩, A240, H⟩ := H
      replace H : ((laws_toTable.f k l1_0).bind fun t307 => ((impl_WalkTable.f k t301 t302 t303 t307 a2 a3).bind fun t311 => ((laws_eqIntS.f k t311 t298).bind fun t314 => (if t314 = true then ((laws_toMesh.f k a0_0 a0_1 l0_2).bind fun bt315 => ((laws_eqMesh.f k t301 t302 t303 bt315.1 bt315.2.1 bt315.2.2).bind fun t320 => (if t320 = true then ((laws_toTable.f k l1_0).bind fun t321 => ((laws_eqTable.f k t307 t321).bind fun t324 => (if t324 = true then ((laws_markMesh.f k t301 t302 t303 1).bind fun bt325 => ((laws_markTable.f k t307 bt325.1).bind fun bt327 => (if bt327.1 < 0 then (laws_FnExactWalkTable.j0 k a2 a3 t298 t311 true a0_0 a0_1 l0_2 l1_0) else ((laws_eqIntS.f k t311 t298).bind fun t329 => (laws_FnExactWalkTable.j0 k a2 a3 t298 t311 (!t329) a0_0 a0_1 l0_2 l1_0))))) else (some false)))) else (some false)))) else (some false))))) = some r := H
      have A24 := Aside0.mk A240
      clear A240
      replace H := Option.bind_eq_some_iff.mp H
      obtain ⟨t307, A250, H⟩ := H
      replace H : ((impl_WalkTable.f k t301 t302 t303 t307 a2 a3).bind fun t311 => ((laws_eqIntS.f k t311 t298).bind fun t314 => (if t314 = true then ((laws_toMesh.f k a0_0 a0_1 l0_2).bind fun bt315 => ((laws_eqMesh.f k t301 t302 t303 bt315.1 bt315.2.1 bt315.2.2).bind fun t320 => (if t320 = true then ((laws_toTable.f k l1_0).bind fun t321 => ((laws_eqTable.f k t307 t321).bind fun t324 => (if t324 = true then ((laws_markMesh.f k t301 t302 t303 1).bind fun bt325 => ((laws_markTable.f k t307 bt325.1).bind fun bt327 => (if bt327.1 < 0 then (laws_FnExactWalkTable.j0 k a2 a3 t298 t311 true a0_0 a0_1 l0_2 l1_0) else ((laws_eqIntS.f k t311 t298).bind fun t329 => (laws_FnExactWalkTable.j0 k a2 a3 t298 t311 (!t329) a0_0 a0_1 l0_2 l1_0))))) else (some false)))) else (some false)))) else (some false)))) = some r := H
      have A25 := Aside0.mk A250
      clear A250
      replace H := Option.bind_eq_some_iff.mp H
      obtain ⟨t311, A260, H⟩ := H
      replace H : ((laws_eqIntS.f k t311 t298).bind fun t314 => (if t314 = true then ((laws_toMesh.f k a0_0 a0_1 l0_2).bind fun bt315 => ((laws_eqMesh.f k t301 t302 t303 bt315.1 bt315.2.1 bt315.2.2).bind fun t320 => (if t320 = true then ((laws_toTable.f k l1_0).bind fun t321 => ((laws_eqTable.f k t307 t321).bind fun t324 => (if t324 = true then ((laws_markMesh.f k t301 t302 t303 1).bind fun bt325 => ((laws_markTable.f k t307 bt325.1).bind fun bt327 => (if bt327.1 < 0 then (laws_FnExactWalkTable.j0 k a2 a3 t298 t311 true a0_0 a0_1 l0_2 l1_0) else ((laws_eqIntS.f k t311 t298).bind fun t329 => (laws_FnExactWalkTable.j0 k a2 a3 t298 t311 (!t329) a0_0 a0_1 l0_2 l1_0))))) else (some false)))) else (some false)))) else (some false))) = some r := H
      have A26 := Aside0.mk A260
      clear A260
      replace H := Option.bind_eq_some_iff.mp H
      obtain ⟨t314, A270, H⟩ := H
      replace H : (if t314 = true then ((laws_toMesh.f k a0_0 a0_1 l0_2).bind fun bt315 => ((laws_eqMesh.f k t301 t302 t303 bt315.1 bt315.2.1 bt315.2.2).bind fun t320 => (if t320 = true then ((laws_toTable.f k l1_0).bind fun t321 => ((laws_eqTable.f k t307 t321).bind fun t324 => (if t324 = true then ((laws_markMesh.f k t301 t302 t303 1).bind fun bt325 => ((laws_markTable.f k t307 bt325.1).bind fun bt327 => (if bt327.1 < 0 then (laws_FnExactWalkTable.j0 k a2 a3 t298 t311 true a0_0 a0_1 l0_2 l1_0) else ((laws_eqIntS.f k t311 t298).bind fun t329 => (laws_FnExactWalkTable.j0 k a2 a3 t298 t311 (!t329) a0_0 a0_1 l0_2 l1_0))))) else (some false)))) else (some false)))) else (some false)) = some r := H
      have A27 := Aside0.mk A270
      clear A270
      by_cases c28 : t314 = true
      · subst c28
        have H1 : ((laws_toMesh.f k a0_0 a0_1 l0_2).bind fun bt315 => ((laws_eqMesh.f k t301 t302 t303 bt315.1 bt315.2.1 bt315.2.2).bind fun t320 => (if t320 = true then ((laws_toTable.f k l1_0).bind fun t321 => ((laws_eqTable.f k t307 t321).bind fun t324 => (if t324 = true then ((laws_markMesh.f k t301 t302 t303 1).bind fun bt325 => ((laws_markTable.f k t307 bt325.1).bind fun bt327 => (if bt327.1 < 0 then (laws_FnExactWalkTable.j0 k a2 a3 t298 t311 true a0_0 a0_1 l0_2 l1_0) else ((laws_eqIntS.f k t311 t298).bind fun t329 => (laws_FnExactWalkTable.j0 k a2 a3 t298 t311 (!t329) a0_0 a0_1 l0_2 l1_0))))) else (some false)))) else (some false)))) = some r := by rw [if_pos rfl] at H; exact H
        clear H
        have H := H1
        clear H1
        replace H := Option.bind_eq_some_iff.mp H
        obtain ⟨⟨t315, t316, t317⟩, A290, H⟩ := H
        replace H : ((laws_eqMesh.f k t301 t302 t303 t315 t316 t317).bind fun t320 => (if t320 = true then ((laws_toTable.f k l1_0).bind fun t321 => ((laws_eqTable.f k t307 t321).bind fun t324 => (if t324 = true then ((laws_markMesh.f k t301 t302 t303 1).bind fun bt325 => ((laws_markTable.f k t307 bt325.1).bind fun bt327 => (if bt327.1 < 0 then (laws_FnExactWalkTable.j0 k a2 a3 t298 t311 true a0_0 a0_1 l0_2 l1_0) else ((laws_eqIntS.f k t311 t298).bind fun t329 => (laws_FnExactWalkTable.j0 k a2 a3 t298 t311 (!t329) a0_0 a0_1 l0_2 l1_0))))) else (some false)))) else (some false))) = some r := H
        have A29 := Aside0.mk A290
        clear A290
        replace H := Option.bind_eq_some_iff.mp H
        obtain ⟨t320, A300, H⟩ := H
        replace H : (if t320 = true then ((laws_toTable.f k l1_0).bind fun t321 => ((laws_eqTable.f k t307 t321).bind fun t324 => (if t324 = true then ((laws_markMesh.f k t301 t302 t303 1).bind fun bt325 => ((laws_markTable.f k t307 bt325.1).bind fun bt327 => (if bt327.1 < 0 then (laws_FnExactWalkTable.j0 k a2 a3 t298 t311 true a0_0 a0_1 l0_2 l1_0) else ((laws_eqIntS.f k t311 t298).bind fun t329 => (laws_FnExactWalkTable.j0 k a2 a3 t298 t311 (!t329) a0_0 a0_1 l0_2 l1_0))))) else (some false)))) else (some false)) = some r := H
        have A30 := Aside0.mk A300
        clear A300
        by_cases c31 : t320 = true
        · subst c31
          have H1 : ((laws_toTable.f k l1_0).bind fun t321 => ((laws_eqTable.f k t307 t321).bind fun t324 => (if t324 = true then ((laws_markMesh.f k t301 t302 t303 1).bind fun bt325 => ((laws_markTable.f k t307 bt325.1).bind fun bt327 => (if bt327.1 < 0 then (laws_FnExactWalkTable.j0 k a2 a3 t298 t311 true a0_0 a0_1 l0_2 l1_0) else ((laws_eqIntS.f k t311 t298).bind fun t329 => (laws_FnExactWalkTable.j0 k a2 a3 t298 t311 (!t329) a0_0 a0_1 l0_2 l1_0))))) else (some false)))) = some r := by rw [if_pos rfl] at H; exact H
          clear H
          have H := H1
          clear H1
          replace H := Option.bind_eq_some_iff.mp H
          obtain ⟨t321, A320, H⟩ := H
          replace H : ((laws_eqTable.f k t307 t321).bind fun t324 => (if t324 = true then ((laws_markMesh.f k t301 t302 t303 1).bind fun bt325 => ((laws_markTable.f k t307 bt325.1).bind fun bt327 => (if bt327.1 < 0 then (laws_FnExactWalkTable.j0 k a2 a3 t298 t311 true a0_0 a0_1 l0_2 l1_0) else ((laws_eqIntS.f k t311 t298).bind fun t329 => (laws_FnExactWalkTable.j0 k a2 a3 t298 t311 (!t329) a0_0 a0_1 l0_2 l1_0))))) else (some false))) = some r := H
          have A32 := Aside0.mk A320
          clear A320
          replace H := Option.bind_eq_some_iff.mp H
          obtain ⟨t324, A330, H⟩ := H
          replace H : (if t324 = true then ((laws_markMesh.f k t301 t302 t303 1).bind fun bt325 => ((laws_markTable.f k t307 bt325.1).bind fun bt327 => (if bt327.1 < 0 then (laws_FnExactWalkTable.j0 k a2 a3 t298 t311 true a0_0 a0_1 l0_2 l1_0) else ((laws_eqIntS.f k t311 t298).bind fun t329 => (laws_FnExactWalkTable.j0 k a2 a3 t298 t311 (!t329) a0_0 a0_1 l0_2 l1_0))))) else (some false)) = some r := H
          have A33 := Aside0.mk A330
          clear A330
          by_cases c34 : t324 = true
          · subst c34
            have H1 : ((laws_markMesh.f k t301 t302 t303 1).bind fun bt325 => ((laws_markTable.f k t307 bt325.1).bind fun bt327 => (if bt327.1 < 0 then (laws_FnExactWalkTable.j0 k a2 a3 t298 t311 true a0_0 a0_1 l0_2 l1_0) else ((laws_eqIntS.f k t311 t298).bind fun t329 => (laws_FnExactWalkTable.j0 k a2 a3 t298 t311 (!t329) a0_0 a0_1 l0_2 l1_0))))) = some r := by rw [if_pos rfl] at H; exact H
            clear H
            have H := H1
            clear H1
            replace H := Option.bind_eq_some_iff.mp H
            obtain ⟨⟨t325, t326⟩, A350, H⟩ := H
            replace H : ((laws_markTable.f k t307 t325).bind fun bt327 => (if bt327.1 < 0 then (laws_FnExactWalkTable.j0 k a2 a3 t298 t311 true a0_0 a0_1 l0_2 l1_0) else ((laws_eqIntS.f k t311 t298).bind fun t329 => (laws_FnExactWalkTable.j0 k a2 a3 t298 t311 (!t329) a0_0 a0_1 l0_2 l1_0)))) = some r := H
            have A35 := Aside0.mk A350
            clear A350
            replace H := Option.bind_eq_some_iff.mp H
            obtain ⟨⟨t327, t328⟩, A360, H⟩ := H
            replace H : (if t327 < 0 then (laws_FnExactWalkTable.j0 k a2 a3 t298 t311 true a0_0 a0_1 l0_2 l1_0) else ((laws_eqIntS.f k t311 t298).bind fun t329 => (laws_FnExactWalkTable.j0 k a2 a3 t298 t311 (!t329) a0_0 a0_1 l0_2 l1_0))) = some r := H
            have A36 := Aside0.mk A360
            clear A360
            have HC37 := Aside0.mk H
            clear H
            go_enter Try.func10, Try.ntmps10
            try go_wp2_with (first | ((with_reducible refine gate_dst (N := 4) rfl ?_); refine box_event ?hg (N := 4) ?hd (cs := #[.int .i64 a0_0, .int .i64 a0_1, .slice A0_2 l0_2.length c0_2]) (t := 26) ?hr ?_; (case hd => rfl); (case hg => rfl); (case hr => first | (go_simp; done) | (go_simp; rfl)); intro gb286 hg w38 hbox hb; have n0_ := Aside0.mk (below_step (by repeat (first | (with_reducible first | exact HB.out | apply below_alloc | apply pw_below_drewN | apply below_drew1) | exact HB.out)) hb); have n1_ := Aside0.mk (hbox); have n2_ := Aside0.mk ((by rw [hg]; exact (below_size (by repeat (first | (with_reducible first | exact HB.out | apply below_alloc | apply pw_below_drewN | apply below_drew1) | exact HB.out))) : w.heap.size ≤ gb286)); have n3_ := Aside0.mk ((by rw [hg]; exact (below_size (by repeat (first | (with_reducible first | exact HB.out | apply below_alloc | apply pw_below_drewN | apply below_drew1) | exact HB.out))) : w.heap.size ≤ gb286)); clear HB; have HB := n0_; have BK286 := n1_; have GW286 := n2_; have GE286 := n3_; clear n0_ n1_ n2_ n3_; clear hb hbox hg) | ((with_reducible refine gate_dst (N := 5) rfl ?_); refine box_event ?hg (N := 5) ?hd (cs := #[.slice A1_0 l1_0.length c1_0]) (t := 56) ?hr ?_; (case hd => rfl); (case hg => rfl); (case hr => first | (go_simp; done) | (go_simp; rfl)); intro gb287 hg w39 hbox hb; have n0_ := Aside0.mk (blk_below (g := gb286) (o := .cells #[.int .i64 a0_0, .int .i64 a0_1, .slice A0_2 l0_2.length c0_2] 26 (0, 0)) (by (with_reducible repeat (first | refine blk_drewN ?_ _ | refine blk_drew ?_ | refine blk_alloc ?_ _)); exact BK286.out) hb); have n1_ := Aside0.mk (below_step (by repeat (first | (with_reducible first | exact HB.out | apply below_alloc | apply pw_below_drewN | apply below_drew1 | refine below_set ?_ GE286.out) | exact HB.out)) hb); have n2_ := Aside0.mk (hbox); have n3_ := Aside0.mk ((by rw [hg]; exact (below_size (by repeat (first | (with_reducible first | exact HB.out | apply below_alloc | apply pw_below_drewN | apply below_drew1 | refine below_set ?_ GE286.out) | exact HB.out))) : w.heap.size ≤ gb287)); have n4_ := Aside0.mk ((by rw [hg]; exact (below_size (by repeat (first | (with_reducible first | exact HB.out | apply below_alloc | apply pw_below_drewN | apply below_drew1 | refine below_set ?_ GE286.out) | exact HB.out))) : w.heap.size ≤ gb287)); have n5_ := Aside0.mk ((by rw [hg]; exact Nat.ne_of_lt (blk_lt (g := gb286) (o := .cells #[.int .i64 a0_0, .int .i64 a0_1, .slice A0_2 l0_2.length c0_2] 26 (0, 0)) (by (with_reducible repeat (first | refine blk_drewN ?_ _ | refine blk_drew ?_ | refine blk_alloc ?_ _)); exact BK286.out)) : gb286 ≠ gb287)); have n6_ := Aside0.mk ((by rw [hg]; exact Nat.ne_of_gt (blk_lt (g := gb286) (o := .cells #[.int .i64 a0_0, .int .i64 a0_1, .slice A0_2 l0_2.length c0_2] 26 (0, 0)) (by (with_reducible repeat (first | refine blk_drewN ?_ _ | refine blk_drew ?_ | refine blk_alloc ?_ _)); exact BK286.out)) : gb287 ≠ gb286)); clear BK286; clear HB; have BK286 := n0_; have HB := n1_; have BK287 := n2_; have GW287 := n3_; have GE287 := n4_; have NB286_287 := n5_; have NB287_286 := n6_; clear n0_ n1_ n2_ n3_ n4_ n5_ n6_; clear hb hbox hg; have hnb40 := NB286_287.out; have hnc40 := NB287_286.out; have hcz41_0 : w39.cell? ⟨gb286, 0, none⟩ = some (.int .i64 a0_0) := (blk_cell BK286.out 0).trans rfl; have hcz41_1 : w39.cell? ⟨gb286, 1, none⟩ = some (.int .i64 a0_1) := (blk_cell BK286.out 1).trans rfl; have hcz41_2 : w39.cell? ⟨gb286, 2, none⟩ = some (.slice A0_2 l0_2.length c0_2) := (blk_cell BK286.out 2).trans rfl; have hfz41_0 := blk_frozen BK286.out 0; have hfz41_1 := blk_frozen BK286.out 1; have hfz41_2 := blk_frozen BK286.out 2) | ((with_reducible refine gate_callee (f := 11) rfl ?_); refine goesL_ (some 20) rfl rfl Try.func11 (by kernel_rfl) rfl #[.agg #[.int .i64 a0_0, .int .i64 a0_1, .slice A0_2 l0_2.length c0_2], .int .i64 1048576] rfl (by (try simp only [List.map_toArray, List.map_cons, List.map_nil]); first | done | rfl | (simp only [List.length_drop, List.length_take]; rfl)) ?_; (with_reducible refine (laws_szMesh.calls a0_0 a0_1 _ _ l0_2 1048576 t288 _ ?side1 ?side2 A5.out).mono ?_); (case side1 => repeat (first | exact (Kd.C_below HR0_2.out HB.out) | (with_reducible refine Kd.C_alloc ?_ _) | (with_reducible refine Kd.C_drewN ?_ _) | (with_reducible refine Kd.C_drew ?_))); (case side2 => exact HC0_2.out); rintro e w42 ⟨rfl, hb⟩; refine ⟨_, rfl, ?_⟩; have n0_ := Aside0.mk (blk_below (g := gb286) (o := .cells #[.int .i64 a0_0, .int .i64 a0_1, .slice A0_2 l0_2.length c0_2] 26 (0, 0)) (by (with_reducible repeat (first | refine blk_drewN ?_ _ | refine blk_drew ?_ | refine blk_alloc ?_ _)); exact BK286.out) hb); have n1_ := Aside0.mk (blk_below (g := gb287) (o := .cells #[.slice A1_0 l1_0.length c1_0] 56 (0, 0)) (by (with_reducible repeat (first | refine blk_drewN ?_ _ | refine blk_drew ?_ | refine blk_alloc ?_ _)); exact BK287.out) hb); have n2_ := Aside0.mk (below_step (by repeat (first | (with_reducible first | exact HB.out | apply below_alloc | apply pw_below_drewN | apply below_drew1 | refine below_set ?_ GE286.out | refine below_set ?_ GE287.out) | exact HB.out)) hb); clear BK286; clear BK287; clear HB; have BK286 := n0_; have BK287 := n1_; have HB := n2_; clear n0_ n1_ n2_; (try clear hb); (try clear hb2); (try clear hk); (try clear hi); have hcz43_0 : w42.cell? ⟨gb287, 0, none⟩ = some (.slice A1_0 l1_0.length c1_0) := (blk_cell BK287.out 0).trans rfl; have hfz43_0 := blk_frozen BK287.out 0) | ((with_reducible refine gate_callee (f := 37) rfl ?_); refine goesL_ (some 25) rfl rfl Try.func37 (by kernel_rfl) rfl #[.agg #[.slice A1_0 l1_0.length c1_0], .int .i64 t288] rfl (by (try simp only [List.map_toArray, List.map_cons, List.map_nil]); first | done | rfl | (simp only [List.length_drop, List.length_take]; rfl)) ?_; (with_reducible refine (laws_szTable.calls _ _ l1_0 t288 t289 _ ?side1 ?side2 A12.out).mono ?_); (case side1 => repeat (first | exact (Kd.C_below HR1_0.out HB.out) | (with_reducible refine Kd.C_alloc ?_ _) | (with_reducible refine Kd.C_drewN ?_ _) | (with_reducible refine Kd.C_drew ?_))); (case side2 => exact HC1_0.out); rintro e w44 ⟨rfl, hb⟩; refine ⟨_, rfl, ?_⟩; have n0_ := Aside0.mk (blk_below (g := gb286) (o := .cells #[.int .i64 a0_0, .int .i64 a0_1, .slice A0_2 l0_2.length c0_2] 26 (0, 0)) (by (with_reducible repeat (first | refine blk_drewN ?_ _ | refine blk_drew ?_ | refine blk_alloc ?_ _)); exact BK286.out) hb); have n1_ := Aside0.mk (blk_below (g := gb287) (o := .cells #[.slice A1_0 l1_0.length c1_0] 56 (0, 0)) (by (with_reducible repeat (first | refine blk_drewN ?_ _ | refine blk_drew ?_ | refine blk_alloc ?_ _)); exact BK287.out) hb); have n2_ := Aside0.mk (below_step (by repeat (first | (with_reducible first | exact HB.out | apply below_alloc | apply pw_below_drewN | apply below_drew1 | refine below_set ?_ GE286.out | refine below_set ?_ GE287.out) | exact HB.out)) hb); clear BK286; clear BK287; clear HB; have BK286 := n0_; have BK287 := n1_; have HB := n2_; clear n0_ n1_ n2_; (try clear hb); (try clear hb2); (try clear hk); (try clear hi)))
            have n0_ := Aside0.mk (blk_drew BK286.out)
            have n1_ := Aside0.mk (blk_drew BK287.out)
            have n2_ := Aside0.mk (below_drew1 HB.out)
            clear BK286
            clear BK287
            clear HB
            have BK286 := n0_
            have BK287 := n1_
            have HB := n2_
            clear n0_ n1_ n2_
            refine start_ (n := 8) (S := fun w' => w'.cell? ⟨gb286, 0, none⟩ = some (.int .i64 a0_0) ∧ w'.cell? ⟨gb286, 1, none⟩ = some (.int .i64 a0_1) ∧ w'.cell? ⟨gb286, 2, none⟩ = some (.slice A0_2 l0_2.length c0_2) ∧ w'.cell? ⟨gb287, 0, none⟩ = some (.slice A1_0 l1_0.length c1_0)) (ds := []) #[false, false, false, false, false, false, false, false] (by kernel_rfl) rfl rfl ⟨(blk_cell BK286.out 0).trans rfl, (blk_cell BK286.out 1).trans rfl, (blk_cell BK286.out 2).trans rfl, (blk_cell BK287.out 0).trans rfl⟩ (fun hHeld => ?_); refine with_tabW laws_FnExactWalkTable.tab8 laws_FnExactWalkTable.bits8 (fun HT_ HW_ => ?_)
            generalize w44.drew = w45 at BK286 BK287 HB hHeld ⊢
            refine pure_ (i := 4) (N := some 32) (v := ?_) (a' := ?_) #[false, false, false, false, true, false, false, false] rfl rfl (any_of HT_.out (by kernel_rfl)) (fun _ _ _ h => h) (Or.inl ⟨by rfl, ?_⟩) ?_ ?_
            rotate_left
            · intro w'
              go_simp
              with_reducible rfl
            rotate_left
            · simp only [Act.put, List.setIfInBounds_toArray, List.set_cons_zero, List.set_cons_succ, i64_w, i32_w]
              rfl
            refine pure_ (i := 5) (N := some 33) (v := ?_) (a' := ?_) #[false, false, false, false, true, true, false, false] rfl rfl (any_of HT_.out (by kernel_rfl)) (fun _ _ _ h => h) (Or.inl ⟨by rfl, ?_⟩) ?_ ?_
            rotate_left
            · intro w'
              go_simp
              with_reducible rfl
            rotate_left
            · simp only [Act.put, List.setIfInBounds_toArray, List.set_cons_zero, List.set_cons_succ, i64_w, i32_w]
              rfl
            refine take_ (i := 0) (N := some 28) (v := ?_) (a' := ?_) #[true, false, false, false, true, true, false, false] rfl rfl (take_ofW HT_.out HW_.out (by kernel_rfl)) (fun _ _ _ h => h) (Or.inl ⟨by rfl, ?_⟩) hHeld ?_ ?_
            rotate_left
            · rintro w' ⟨s0, s1, s2, s3⟩
              go_simp
              with_reducible rfl
            rotate_left
            · simp only [Act.put, List.setIfInBounds_toArray, List.set_cons_zero, List.set_cons_succ, i64_w, i32_w]
              rfl
            refine take_ (i := 2) (N := some 30) (v := ?_) (a' := ?_) #[true, false, true, false, true, true, false, false] rfl rfl (take_ofW HT_.out HW_.out (by kernel_rfl)) (fun _ _ _ h => h) (Or.inl ⟨by rfl, ?_⟩) hHeld ?_ ?_
            rotate_left
            · rintro w' ⟨s0, s1, s2, s3⟩
              go_simp
              with_reducible rfl
            rotate_left
            · simp only [Act.put, List.setIfInBounds_toArray, List.set_cons_zero, List.set_cons_succ, i64_w, i32_w]
              rfl
            refine one_ (i := 1) (N := some 29) #[true, true, true, false, true, true, false, false] rfl rfl (one_of HT_.out (by kernel_rfl)) (by decide) (fun K hK => ?_)
            refine goes_ Try.func13 (by kernel_rfl) rfl #[.agg #[.int .i64 a0_0, .int .i64 a0_1, .slice A0_2 l0_2.length c0_2]] (by rfl) rfl rfl (by (try simp only [List.map_toArray, List.map_cons, List.map_nil]); first | done | rfl | (simp only [List.length_drop, List.length_take]; rfl)) ?_
            with_reducible refine (laws_toMesh.calls k a0_0 a0_1 _ _ l0_2 t290 t291 t292 _ ?side1 ?side2 A21.out).mono ?_
            (case side1 => repeat (first | exact (Kd.C_below HR0_2.out HB.out) | (with_reducible refine Kd.C_alloc ?_ _) | (with_reducible refine Kd.C_drewN ?_ _) | (with_reducible refine Kd.C_drew ?_)))
            (case side2 => exact HC0_2.out)
            rintro e w46 ⟨v293, rfl, ho0, hb⟩
            refine ⟨_, rfl, ?_⟩
            have n0_ := Aside0.mk (Kd.R_lower ho0 (below_size (by repeat (first | (with_reducible first | exact HB.out | apply below_alloc | apply pw_below_drewN | apply below_drew1 | refine below_set ?_ GE286.out | refine below_set ?_ GE287.out) | exact HB.out))))
            have n1_ := Aside0.mk (blk_below (g := gb286) (o := .cells #[.int .i64 a0_0, .int .i64 a0_1, .slice A0_2 l0_2.length c0_2] 26 (0, 0)) (by (with_reducible repeat (first | refine blk_drewN ?_ _ | refine blk_drew ?_ | refine blk_alloc ?_ _)); exact BK286.out) hb)
            have n2_ := Aside0.mk (blk_below (g := gb287) (o := .cells #[.slice A1_0 l1_0.length c1_0] 56 (0, 0)) (by (with_reducible repeat (first | refine blk_drewN ?_ _ | refine blk_drew ?_ | refine blk_alloc ?_ _)); exact BK287.out) hb)
            have n3_ := Aside0.mk (below_step (by repeat (first | (with_reducible first | exact HB.out | apply below_alloc | apply pw_below_drewN | apply below_drew1 | refine below_set ?_ GE286.out | refine below_set ?_ GE287.out) | exact HB.out)) hb)
            clear BK286
            clear BK287
            clear HB
            have HO294 := n0_
            have BK286 := n1_
            have BK287 := n2_
            have HB := n3_
            clear n0_ n1_ n2_ n3_
            (try clear hb)
            (try clear hb2)
            (try clear hk)
            (try clear hi)
            (try clear ho0)
            refine hK.out _ _ ⟨(blk_cell BK286.out 0).trans rfl, (blk_cell BK286.out 1).trans rfl, (blk_cell BK286.out 2).trans rfl, (blk_cell BK287.out 0).trans rfl⟩ (fun hHeld => ?_)
            clear hK K
            refine norm_ (a' := ?_) ?_ ?_
            rotate_left
            · show Act.put _ (some 29) _ = _
              simp only [Act.put, List.setIfInBounds_toArray, List.set_cons_zero, List.set_cons_succ, i64_w, i32_w]
              rfl
            refine one_ (i := 3) (N := some 31) #[true, true, true, true, true, true, false, false] rfl rfl (one_of HT_.out (by kernel_rfl)) (by decide) (fun K hK => ?_)
            refine goes_ Try.func39 (by kernel_rfl) rfl #[.agg #[.slice A1_0 l1_0.length c1_0]] (by rfl) rfl rfl (by (try simp only [List.map_toArray, List.map_cons, List.map_nil]); first | done | rfl | (simp only [List.length_drop, List.length_take]; rfl)) ?_
            with_reducible refine (laws_toTable.calls k _ _ l1_0 t295 _ ?side1 ?side2 A22.out).mono ?_
            (case side1 => repeat (first | exact (Kd.C_below HR1_0.out HB.out) | (with_reducible refine Kd.C_alloc ?_ _) | (with_reducible refine Kd.C_drewN ?_ _) | (with_reducible refine Kd.C_drew ?_)))
            (case side2 => exact HC1_0.out)
            rintro e w47 ⟨v296, rfl, ho0, hb⟩
            refine ⟨_, rfl, ?_⟩
            have n0_ := Aside0.mk (Kd.R_elder' (by (with_reducible repeat (first | apply Kd.R_alloc | apply Kd.R_drewN | apply Kd.R_drew)); exact HO294.out) (Kd.R_base ho0) hb)
            have n1_ := Aside0.mk (Kd.R_lower (Kd.R_new' ho0 (Kd.R_lt (by (with_reducible repeat (first | apply Kd.R_alloc | apply Kd.R_drewN | apply Kd.R_drew)); exact HO294.out))) (below_size (by repeat (first | (with_reducible first | exact HB.out | apply below_alloc | apply pw_below_drewN | apply below_drew1 | refine below_set ?_ GE286.out | refine below_set ?_ GE287.out) | exact HB.out))))
            have n2_ := Aside0.mk (blk_below (g := gb286) (o := .cells #[.int .i64 a0_0, .int .i64 a0_1, .slice A0_2 l0_2.length c0_2] 26 (0, 0)) (by (with_reducible repeat (first | refine blk_drewN ?_ _ | refine blk_drew ?_ | refine blk_alloc ?_ _)); exact BK286.out) hb)
            have n3_ := Aside0.mk (blk_below (g := gb287) (o := .cells #[.slice A1_0 l1_0.length c1_0] 56 (0, 0)) (by (with_reducible repeat (first | refine blk_drewN ?_ _ | refine blk_drew ?_ | refine blk_alloc ?_ _)); exact BK287.out) hb)
            have n4_ := Aside0.mk (below_step (by repeat (first | (with_reducible first | exact HB.out | apply below_alloc | apply pw_below_drewN | apply below_drew1 | refine below_set ?_ GE286.out | refine below_set ?_ GE287.out) | exact HB.out)) hb)
            clear HO294
            clear BK286
            clear BK287
            clear HB
            have HO294 := n0_
            have HO297 := n1_
            have BK286 := n2_
            have BK287 := n3_
            have HB := n4_
            clear n0_ n1_ n2_ n3_ n4_
            (try clear hb)
            (try clear hb2)
            (try clear hk)
            (try clear hi)
            (try clear ho0)
            obtain ⟨Ao48, co48, eo48⟩ := Kd.R_slice HO294.out
            (first | subst eo48 | (injection eo48 with f1_ f2_ f3_; have f4_ := f1_.symm; have f5_ := f3_.symm; clear f1_ f2_ f3_; subst f4_; subst f5_))
            obtain ⟨Ao49, co49, eo49⟩ := Kd.R_slice HO297.out
            (first | subst eo49 | (injection eo49 with f1_ f2_ f3_; have f4_ := f1_.symm; have f5_ := f3_.symm; clear f1_ f2_ f3_; subst f4_; subst f5_))
            refine hK.out _ _ ⟨(blk_cell BK286.out 0).trans rfl, (blk_cell BK286.out 1).trans rfl, (blk_cell BK286.out 2).trans rfl, (blk_cell BK287.out 0).trans rfl⟩ (fun hHeld => ?_)
            clear hK K
            refine norm_ (a' := ?_) ?_ ?_
            rotate_left
            · show Act.put _ (some 31) _ = _
              simp only [Act.put, List.setIfInBounds_toArray, List.set_cons_zero, List.set_cons_succ, i64_w, i32_w]
              rfl
            refine one_ (i := 6) (N := some 34) #[true, true, true, true, true, true, true, false] rfl rfl (one_of HT_.out (by kernel_rfl)) (by decide) (fun K hK => ?_)
            refine goes_ Try.func38 (by kernel_rfl) rfl #[.agg #[.int .i64 t290, .int .i64 t291, .slice Ao48 t292.length co48], .agg #[.slice Ao49 t295.length co49], .int .i64 a2, .int .i64 a3] (by rfl) rfl rfl (by (try simp only [List.map_toArray, List.map_cons, List.map_nil]); first | done | rfl | (simp only [List.length_drop, List.length_take]; rfl)) ?_
            with_reducible refine (spec_WalkTable.calls k t290 t291 _ _ t292 _ _ t295 a2 a3 t298 _ ?side1 ?side2 ?side3 ?side4 A23.out).mono ?_
            (case side1 => repeat (first | exact (Kd.R_reads' HO294.out).2.2 | (with_reducible refine Kd.C_alloc ?_ _) | (with_reducible refine Kd.C_drewN ?_ _) | (with_reducible refine Kd.C_drew ?_)))
            (case side2 => exact (Kd.R_reads' HO294.out).2.1)
            (case side3 => repeat (first | exact (Kd.R_reads' HO297.out).2.2 | (with_reducible refine Kd.C_alloc ?_ _) | (with_reducible refine Kd.C_drewN ?_ _) | (with_reducible refine Kd.C_drew ?_)))
            (case side4 => exact (Kd.R_reads' HO297.out).2.1)
            rintro e w50 ⟨v299, rfl, ho0, hb⟩
            refine ⟨_, rfl, ?_⟩
            have n0_ := Aside0.mk (Kd.R_elder' (by (with_reducible repeat (first | apply Kd.R_alloc | apply Kd.R_drewN | apply Kd.R_drew)); exact HO294.out) (Kd.R_base ho0) hb)
            have n1_ := Aside0.mk (Kd.R_elder' (by (with_reducible repeat (first | apply Kd.R_alloc | apply Kd.R_drewN | apply Kd.R_drew)); exact HO297.out) (Kd.R_base ho0) hb)
            have n2_ := Aside0.mk (Kd.R_lower (Kd.R_new' (Kd.R_new' ho0 (Kd.R_lt (by (with_reducible repeat (first | apply Kd.R_alloc | apply Kd.R_drewN | apply Kd.R_drew)); exact HO294.out))) (Kd.R_lt (by (with_reducible repeat (first | apply Kd.R_alloc | apply Kd.R_drewN | apply Kd.R_drew)); exact HO297.out))) (below_size (by repeat (first | (with_reducible first | exact HB.out | apply below_alloc | apply pw_below_drewN | apply below_drew1 | refine below_set ?_ GE286.out | refine below_set ?_ GE287.out) | exact HB.out))))
            have n3_ := Aside0.mk (blk_below (g := gb286) (o := .cells #[.int .i64 a0_0, .int .i64 a0_1, .slice A0_2 l0_2.length c0_2] 26 (0, 0)) (by (with_reducible repeat (first | refine blk_drewN ?_ _ | refine blk_drew ?_ | refine blk_alloc ?_ _)); exact BK286.out) hb)
            have n4_ := Aside0.mk (blk_below (g := gb287) (o := .cells #[.slice A1_0 l1_0.length c1_0] 56 (0, 0)) (by (with_reducible repeat (first | refine blk_drewN ?_ _ | refine blk_drew ?_ | refine blk_alloc ?_ _)); exact BK287.out) hb)
            have n5_ := Aside0.mk (below_step (by repeat (first | (with_reducible first | exact HB.out | apply below_alloc | apply pw_below_drewN | apply below_drew1 | refine below_set ?_ GE286.out | refine below_set ?_ GE287.out) | exact HB.out)) hb)
            clear HO294
            clear HO297
            clear BK286
            clear BK287
            clear HB
            have HO294 := n0_
            have HO297 := n1_
            have HO300 := n2_
            have BK286 := n3_
            have BK287 := n4_
            have HB := n5_
            clear n0_ n1_ n2_ n3_ n4_ n5_
            (try clear hb)
            (try clear hb2)
            (try clear hk)
            (try clear hi)
            (try clear ho0)
            refine hK.out _ _ ⟨(blk_cell BK286.out 0).trans rfl, (blk_cell BK286.out 1).trans rfl, (blk_cell BK286.out 2).trans rfl, (blk_cell BK287.out 0).trans rfl⟩ (fun hHeld => ?_)
            clear hK K
            refine norm_ (a' := ?_) ?_ ?_
            rotate_left
            · show Act.put _ (some 34) _ = _
              simp only [Act.put, List.setIfInBounds_toArray, List.set_cons_zero, List.set_cons_succ, i64_w, i32_w]
              rfl
            refine pure_ (i := 7) (N := some 10) (v := ?_) (a' := ?_) #[true, true, true, true, true, true, true, true] rfl rfl (any_of HT_.out (by kernel_rfl)) (fun _ _ _ h => h) (Or.inl ⟨by rfl, ?_⟩) ?_ ?_
            rotate_left
            · intro w'
              go_simp
              with_reducible rfl
            rotate_left
            · simp only [Act.put, List.setIfInBounds_toArray, List.set_cons_zero, List.set_cons_succ, i64_w, i32_w]
              rfl
            refine done_ (done_of HT_.out (by kernel_rfl)) ?_
            have hcz51_0 : w50.cell? ⟨gb286, 0, none⟩ = some (.int .i64 a0_0) := (blk_cell BK286.out 0).trans rfl
            have hcz51_1 : w50.cell? ⟨gb286, 1, none⟩ = some (.int .i64 a0_1) := (blk_cell BK286.out 1).trans rfl
            have hcz51_2 : w50.cell? ⟨gb286, 2, none⟩ = some (.slice A0_2 l0_2.length c0_2) := (blk_cell BK286.out 2).trans rfl
            have hfz51_0 := blk_frozen BK286.out 0
            have hfz51_1 := blk_frozen BK286.out 1
            have hfz51_2 := blk_frozen BK286.out 2
            try go_wp2_with (first | ((with_reducible refine gate_callee (f := 13) rfl ?_); refine goesL_ (some 36) rfl rfl Try.func13 (by kernel_rfl) rfl #[.agg #[.int .i64 a0_0, .int .i64 a0_1, .slice A0_2 l0_2.length c0_2]] rfl (by (try simp only [List.map_toArray, List.map_cons, List.map_nil]); first | done | rfl | (simp only [List.length_drop, List.length_take]; rfl)) ?_; (with_reducible refine (laws_toMesh.calls k a0_0 a0_1 _ _ l0_2 t301 t302 t303 _ ?side1 ?side2 A24.out).mono ?_); (case side1 => repeat (first | exact (Kd.C_below HR0_2.out HB.out) | (with_reducible refine Kd.C_alloc ?_ _) | (with_reducible refine Kd.C_drewN ?_ _) | (with_reducible refine Kd.C_drew ?_))); (case side2 => exact HC0_2.out); rintro e w52 ⟨v304, rfl, ho0, hb⟩; refine ⟨_, rfl, ?_⟩; have n0_ := Aside0.mk (Kd.R_elder' (by (with_reducible repeat (first | apply Kd.R_alloc | apply Kd.R_drewN | apply Kd.R_drew)); exact HO294.out) (Kd.R_base ho0) hb); have n1_ := Aside0.mk (Kd.R_elder' (by (with_reducible repeat (first | apply Kd.R_alloc | apply Kd.R_drewN | apply Kd.R_drew)); exact HO297.out) (Kd.R_base ho0) hb); have n2_ := Aside0.mk (Kd.R_elder' (by (with_reducible repeat (first | apply Kd.R_alloc | apply Kd.R_drewN | apply Kd.R_drew)); exact HO300.out) (Kd.R_base ho0) hb); have n3_ := Aside0.mk (Kd.R_lower (Kd.R_new' (Kd.R_new' (Kd.R_new' ho0 (Kd.R_lt (by (with_reducible repeat (first | apply Kd.R_alloc | apply Kd.R_drewN | apply Kd.R_drew)); exact HO294.out))) (Kd.R_lt (by (with_reducible repeat (first | apply Kd.R_alloc | apply Kd.R_drewN | apply Kd.R_drew)); exact HO297.out))) (Kd.R_lt (by (with_reducible repeat (first | apply Kd.R_alloc | apply Kd.R_drewN | apply Kd.R_drew)); exact HO300.out))) (below_size (by repeat (first | (with_reducible first | exact HB.out | apply below_alloc | apply pw_below_drewN | apply below_drew1 | refine below_set ?_ GE286.out | refine below_set ?_ GE287.out) | exact HB.out)))); have n4_ := Aside0.mk (blk_below (g := gb286) (o := .cells #[.int .i64 a0_0, .int .i64 a0_1, .slice A0_2 l0_2.length c0_2] 26 (0, 0)) (by (with_reducible repeat (first | refine blk_drewN ?_ _ | refine blk_drew ?_ | refine blk_alloc ?_ _)); exact BK286.out) hb); have n5_ := Aside0.mk (blk_below (g := gb287) (o := .cells #[.slice A1_0 l1_0.length c1_0] 56 (0, 0)) (by (with_reducible repeat (first | refine blk_drewN ?_ _ | refine blk_drew ?_ | refine blk_alloc ?_ _)); exact BK287.out) hb); have n6_ := Aside0.mk (below_step (by repeat (first | (with_reducible first | exact HB.out | apply below_alloc | apply pw_below_drewN | apply below_drew1 | refine below_set ?_ GE286.out | refine below_set ?_ GE287.out) | exact HB.out)) hb); clear HO294; clear HO297; clear HO300; clear BK286; clear BK287; clear HB; have HO294 := n0_; have HO297 := n1_; have HO300 := n2_; have HO305 := n3_; have BK286 := n4_; have BK287 := n5_; have HB := n6_; clear n0_ n1_ n2_ n3_ n4_ n5_ n6_; (try clear hb); (try clear hb2); (try clear hk); (try clear hi); (try clear ho0)) | ((with_reducible refine gate_dst (N := 11) rfl ?_); refine box_event ?hg (N := 11) ?hd (cs := #[.int .i64 0, .int .i64 0, .slice none 0 0]) (t := 31) ?hr ?_; (case hd => rfl); (case hg => rfl); (case hr => first | (go_simp; done) | (go_simp; rfl)); intro gb306 hg w53 hbox hb; have n0_ := Aside0.mk (Kd.R_below (by (with_reducible repeat (first | apply Kd.R_alloc | apply Kd.R_drewN | apply Kd.R_drew)); exact HO294.out) hb); have n1_ := Aside0.mk (Kd.R_below (by (with_reducible repeat (first | apply Kd.R_alloc | apply Kd.R_drewN | apply Kd.R_drew)); exact HO297.out) hb); have n2_ := Aside0.mk (Kd.R_below (by (with_reducible repeat (first | apply Kd.R_alloc | apply Kd.R_drewN | apply Kd.R_drew)); exact HO300.out) hb); have n3_ := Aside0.mk (Kd.R_below (by (with_reducible repeat (first | apply Kd.R_alloc | apply Kd.R_drewN | apply Kd.R_drew)); exact HO305.out) hb); have n4_ := Aside0.mk (blk_below (g := gb286) (o := .cells #[.int .i64 a0_0, .int .i64 a0_1, .slice A0_2 l0_2.length c0_2] 26 (0, 0)) (by (with_reducible repeat (first | refine blk_drewN ?_ _ | refine blk_drew ?_ | refine blk_alloc ?_ _)); exact BK286.out) hb); have n5_ := Aside0.mk (blk_below (g := gb287) (o := .cells #[.slice A1_0 l1_0.length c1_0] 56 (0, 0)) (by (with_reducible repeat (first | refine blk_drewN ?_ _ | refine blk_drew ?_ | refine blk_alloc ?_ _)); exact BK287.out) hb); have n6_ := Aside0.mk (below_step (by repeat (first | (with_reducible first | exact HB.out | apply below_alloc | apply pw_below_drewN | apply below_drew1 | refine below_set ?_ GE286.out | refine below_set ?_ GE287.out) | exact HB.out)) hb); have n7_ := Aside0.mk (hbox); have n8_ := Aside0.mk ((by rw [hg]; exact (below_size (by repeat (first | (with_reducible first | exact HB.out | apply below_alloc | apply pw_below_drewN | apply below_drew1 | refine below_set ?_ GE286.out | refine below_set ?_ GE287.out) | exact HB.out))) : w.heap.size ≤ gb306)); have n9_ := Aside0.mk ((by rw [hg]; exact (below_size (by repeat (first | (with_reducible first | exact HB.out | apply below_alloc | apply pw_below_drewN | apply below_drew1 | refine below_set ?_ GE286.out | refine below_set ?_ GE287.out) | exact HB.out))) : w.heap.size ≤ gb306)); have n10_ := Aside0.mk ((by rw [hg]; exact Nat.ne_of_lt (blk_lt (g := gb286) (o := .cells #[.int .i64 a0_0, .int .i64 a0_1, .slice A0_2 l0_2.length c0_2] 26 (0, 0)) (by (with_reducible repeat (first | refine blk_drewN ?_ _ | refine blk_drew ?_ | refine blk_alloc ?_ _)); exact BK286.out)) : gb286 ≠ gb306)); have n11_ := Aside0.mk ((by rw [hg]; exact Nat.ne_of_gt (blk_lt (g := gb286) (o := .cells #[.int .i64 a0_0, .int .i64 a0_1, .slice A0_2 l0_2.length c0_2] 26 (0, 0)) (by (with_reducible repeat (first | refine blk_drewN ?_ _ | refine blk_drew ?_ | refine blk_alloc ?_ _)); exact BK286.out)) : gb306 ≠ gb286)); have n12_ := Aside0.mk ((by rw [hg]; exact Nat.ne_of_lt (blk_lt (g := gb287) (o := .cells #[.slice A1_0 l1_0.length c1_0] 56 (0, 0)) (by (with_reducible repeat (first | refine blk_drewN ?_ _ | refine blk_drew ?_ | refine blk_alloc ?_ _)); exact BK287.out)) : gb287 ≠ gb306)); have n13_ := Aside0.mk ((by rw [hg]; exact Nat.ne_of_gt (blk_lt (g := gb287) (o := .cells #[.slice A1_0 l1_0.length c1_0] 56 (0, 0)) (by (with_reducible repeat (first | refine blk_drewN ?_ _ | refine blk_drew ?_ | refine blk_alloc ?_ _)); exact BK287.out)) : gb306 ≠ gb287)); clear HO294; clear HO297; clear HO300; clear HO305; clear BK286; clear BK287; clear HB; have HO294 := n0_; have HO297 := n1_; have HO300 := n2_; have HO305 := n3_; have BK286 := n4_; have BK287 := n5_; have HB := n6_; have BK306 := n7_; have GW306 := n8_; have GE306 := n9_; have NB286_306 := n10_; have NB306_286 := n11_; have NB287_306 := n12_; have NB306_287 := n13_; clear n0_ n1_ n2_ n3_ n4_ n5_ n6_ n7_ n8_ n9_ n10_ n11_ n12_ n13_; clear hb hbox hg; have hnb54 := NB306_286.out; have hnc54 := NB286_306.out; have hnb55 := NB306_287.out; have hnc55 := NB287_306.out; have hcz56_0 : w53.cell? ⟨gb306, 0, none⟩ = some (.int .i64 0) := (blk_cell BK306.out 0).trans rfl; have hcz56_1 : w53.cell? ⟨gb306, 1, none⟩ = some (.int .i64 0) := (blk_cell BK306.out 1).trans rfl; have hcz56_2 : w53.cell? ⟨gb306, 2, none⟩ = some (.slice none 0 0) := (blk_cell BK306.out 2).trans rfl; have hfz56_0 := blk_frozen BK306.out 0; have hfz56_1 := blk_frozen BK306.out 1; have hfz56_2 := blk_frozen BK306.out 2; obtain ⟨Ao57, co57, eo57⟩ := Kd.R_slice HO305.out; subst eo57; have hcz58_0 : w53.cell? ⟨gb287, 0, none⟩ = some (.slice A1_0 l1_0.length c1_0) := (blk_cell BK287.out 0).trans rfl; have hfz58_0 := blk_frozen BK287.out 0) | ((with_reducible refine gate_callee (f := 39) rfl ?_); refine goesL_ (some 38) rfl rfl Try.func39 (by kernel_rfl) rfl #[.agg #[.slice A1_0 l1_0.length c1_0]] rfl (by (try simp only [List.map_toArray, List.map_cons, List.map_nil]); first | done | rfl | (simp only [List.length_drop, List.length_take]; rfl)) ?_; (with_reducible refine (laws_toTable.calls k _ _ l1_0 t307 _ ?side1 ?side2 A25.out).mono ?_); (case side1 => exact Kd.C_below HR1_0.out (by repeat (first | (with_reducible first | exact HB.out | apply below_alloc | apply pw_below_drewN | apply below_drew1 | refine below_set ?_ GE286.out | refine below_set ?_ GE287.out | refine below_set ?_ GE306.out) | exact HB.out))); (case side2 => exact HC1_0.out); rintro e w59 ⟨v308, rfl, ho0, hb⟩; refine ⟨_, rfl, ?_⟩; have n0_ := Aside0.mk (Kd.R_elder' (by (with_reducible repeat (first | apply Kd.R_alloc | apply Kd.R_drewN | apply Kd.R_drew)); exact (Kd.R_mono (Kd.R_far (p := ⟨gb306, 2, none⟩) (Kd.R_far (p := ⟨gb306, 1, none⟩) (Kd.R_far (p := ⟨gb306, 0, none⟩) (Kd.R_types HO294.out BK306.out (by decide)) (fun _ hk => by first | exact hk.2 | (simp_all; done) | grind) (.int .i64 t301)) (fun _ hk => by first | exact hk.2 | (simp_all; done) | grind) (.int .i64 t302)) (fun _ hk => by first | exact hk.2 | (simp_all; done) | grind) (.slice Ao57 t303.length co57)) (fun _ h_ => h_.1))) (Kd.R_base ho0) hb); have n1_ := Aside0.mk (Kd.R_elder' (by (with_reducible repeat (first | apply Kd.R_alloc | apply Kd.R_drewN | apply Kd.R_drew)); exact (Kd.R_mono (Kd.R_far (p := ⟨gb306, 2, none⟩) (Kd.R_far (p := ⟨gb306, 1, none⟩) (Kd.R_far (p := ⟨gb306, 0, none⟩) (Kd.R_types HO297.out BK306.out (by decide)) (fun _ hk => by first | exact hk.2 | (simp_all; done) | grind) (.int .i64 t301)) (fun _ hk => by first | exact hk.2 | (simp_all; done) | grind) (.int .i64 t302)) (fun _ hk => by first | exact hk.2 | (simp_all; done) | grind) (.slice Ao57 t303.length co57)) (fun _ h_ => h_.1))) (Kd.R_base ho0) hb); have n2_ := Aside0.mk (Kd.R_elder' (by (with_reducible repeat (first | apply Kd.R_alloc | apply Kd.R_drewN | apply Kd.R_drew)); exact (Kd.R_mono (Kd.R_far (p := ⟨gb306, 2, none⟩) (Kd.R_far (p := ⟨gb306, 1, none⟩) (Kd.R_far (p := ⟨gb306, 0, none⟩) (Kd.R_types HO300.out BK306.out (by decide)) (fun _ hk => by first | exact hk.2 | (simp_all; done) | grind) (.int .i64 t301)) (fun _ hk => by first | exact hk.2 | (simp_all; done) | grind) (.int .i64 t302)) (fun _ hk => by first | exact hk.2 | (simp_all; done) | grind) (.slice Ao57 t303.length co57)) (fun _ h_ => h_.1))) (Kd.R_base ho0) hb); have n3_ := Aside0.mk (Kd.R_elder' (by (with_reducible repeat (first | apply Kd.R_alloc | apply Kd.R_drewN | apply Kd.R_drew)); exact (Kd.R_mono (Kd.R_far (p := ⟨gb306, 2, none⟩) (Kd.R_far (p := ⟨gb306, 1, none⟩) (Kd.R_far (p := ⟨gb306, 0, none⟩) (Kd.R_types HO305.out BK306.out (by decide)) (fun _ hk => by first | exact hk.2 | (simp_all; done) | grind) (.int .i64 t301)) (fun _ hk => by first | exact hk.2 | (simp_all; done) | grind) (.int .i64 t302)) (fun _ hk => by first | exact hk.2 | (simp_all; done) | grind) (.slice Ao57 t303.length co57)) (fun _ h_ => h_.1))) (Kd.R_base ho0) hb); have n4_ := Aside0.mk (Kd.R_lower (Kd.R_new' (Kd.R_new' (Kd.R_new' (Kd.R_new' ho0 (Kd.R_lt (by (with_reducible repeat (first | apply Kd.R_alloc | apply Kd.R_drewN | apply Kd.R_drew)); exact (Kd.R_mono (Kd.R_far (p := ⟨gb306, 2, none⟩) (Kd.R_far (p := ⟨gb306, 1, none⟩) (Kd.R_far (p := ⟨gb306, 0, none⟩) (Kd.R_types HO294.out BK306.out (by decide)) (fun _ hk => by first | exact hk.2 | (simp_all; done) | grind) (.int .i64 t301)) (fun _ hk => by first | exact hk.2 | (simp_all; done) | grind) (.int .i64 t302)) (fun _ hk => by first | exact hk.2 | (simp_all; done) | grind) (.slice Ao57 t303.length co57)) (fun _ h_ => h_.1))))) (Kd.R_lt (by (with_reducible repeat (first | apply Kd.R_alloc | apply Kd.R_drewN | apply Kd.R_drew)); exact (Kd.R_mono (Kd.R_far (p := ⟨gb306, 2, none⟩) (Kd.R_far (p := ⟨gb306, 1, none⟩) (Kd.R_far (p := ⟨gb306, 0, none⟩) (Kd.R_types HO297.out BK306.out (by decide)) (fun _ hk => by first | exact hk.2 | (simp_all; done) | grind) (.int .i64 t301)) (fun _ hk => by first | exact hk.2 | (simp_all; done) | grind) (.int .i64 t302)) (fun _ hk => by first | exact hk.2 | (simp_all; done) | grind) (.slice Ao57 t303.length co57)) (fun _ h_ => h_.1))))) (Kd.R_lt (by (with_reducible repeat (first | apply Kd.R_alloc | apply Kd.R_drewN | apply Kd.R_drew)); exact (Kd.R_mono (Kd.R_far (p := ⟨gb306, 2, none⟩) (Kd.R_far (p := ⟨gb306, 1, none⟩) (Kd.R_far (p := ⟨gb306, 0, none⟩) (Kd.R_types HO300.out BK306.out (by decide)) (fun _ hk => by first | exact hk.2 | (simp_all; done) | grind) (.int .i64 t301)) (fun _ hk => by first | exact hk.2 | (simp_all; done) | grind) (.int .i64 t302)) (fun _ hk => by first | exact hk.2 | (simp_all; done) | grind) (.slice Ao57 t303.length co57)) (fun _ h_ => h_.1))))) (Kd.R_lt (by (with_reducible repeat (first | apply Kd.R_alloc | apply Kd.R_drewN | apply Kd.R_drew)); exact (Kd.R_mono (Kd.R_far (p := ⟨gb306, 2, none⟩) (Kd.R_far (p := ⟨gb306, 1, none⟩) (Kd.R_far (p := ⟨gb306, 0, none⟩) (Kd.R_types HO305.out BK306.out (by decide)) (fun _ hk => by first | exact hk.2 | (simp_all; done) | grind) (.int .i64 t301)) (fun _ hk => by first | exact hk.2 | (simp_all; done) | grind) (.int .i64 t302)) (fun _ hk => by first | exact hk.2 | (simp_all; done) | grind) (.slice Ao57 t303.length co57)) (fun _ h_ => h_.1))))) (below_size (by repeat (first | (with_reducible first | exact HB.out | apply below_alloc | apply pw_below_drewN | apply below_drew1 | refine below_set ?_ GE286.out | refine below_set ?_ GE287.out | refine below_set ?_ GE306.out) | exact HB.out)))); have n5_ := Aside0.mk (blk_below (g := gb286) (o := .cells #[.int .i64 a0_0, .int .i64 a0_1, .slice A0_2 l0_2.length c0_2] 26 (0, 0)) (by (with_reducible repeat (first | refine blk_drewN ?_ _ | refine blk_drew ?_ | refine blk_alloc ?_ _)); refine blk_far ?_ NB286_306.out _; (with_reducible repeat (first | refine blk_drewN ?_ _ | refine blk_drew ?_ | refine blk_alloc ?_ _)); refine blk_far ?_ NB286_306.out _; (with_reducible repeat (first | refine blk_drewN ?_ _ | refine blk_drew ?_ | refine blk_alloc ?_ _)); refine blk_far ?_ NB286_306.out _; (with_reducible repeat (first | refine blk_drewN ?_ _ | refine blk_drew ?_ | refine blk_alloc ?_ _)); exact BK286.out) hb); have n6_ := Aside0.mk (blk_below (g := gb287) (o := .cells #[.slice A1_0 l1_0.length c1_0] 56 (0, 0)) (by (with_reducible repeat (first | refine blk_drewN ?_ _ | refine blk_drew ?_ | refine blk_alloc ?_ _)); refine blk_far ?_ NB287_306.out _; (with_reducible repeat (first | refine blk_drewN ?_ _ | refine blk_drew ?_ | refine blk_alloc ?_ _)); refine blk_far ?_ NB287_306.out _; (with_reducible repeat (first | refine blk_drewN ?_ _ | refine blk_drew ?_ | refine blk_alloc ?_ _)); refine blk_far ?_ NB287_306.out _; (with_reducible repeat (first | refine blk_drewN ?_ _ | refine blk_drew ?_ | refine blk_alloc ?_ _)); exact BK287.out) hb); have n7_ := Aside0.mk (blk_below (g := gb306) (o := .cells #[.int .i64 t301, .int .i64 t302, .slice Ao57 t303.length co57] 31 (0, 0)) (by (with_reducible repeat (first | refine blk_drewN ?_ _ | refine blk_drew ?_ | refine blk_alloc ?_ _)); refine blk_put (cs := #[.int .i64 t301, .int .i64 t302, .slice none 0 0]) ?_ 2 _ rfl; (with_reducible repeat (first | refine blk_drewN ?_ _ | refine blk_drew ?_ | refine blk_alloc ?_ _)); refine blk_put (cs := #[.int .i64 t301, .int .i64 0, .slice none 0 0]) ?_ 1 _ rfl; (with_reducible repeat (first | refine blk_drewN ?_ _ | refine blk_drew ?_ | refine blk_alloc ?_ _)); refine blk_put (cs := #[.int .i64 0, .int .i64 0, .slice none 0 0]) ?_ 0 _ rfl; (with_reducible repeat (first | refine blk_drewN ?_ _ | refine blk_drew ?_ | refine blk_alloc ?_ _)); exact BK306.out) hb); have n8_ := Aside0.mk (below_step (by repeat (first | (with_reducible first | exact HB.out | apply below_alloc | apply pw_below_drewN | apply below_drew1 | refine below_set ?_ GE286.out | refine below_set ?_ GE287.out | refine below_set ?_ GE306.out) | exact HB.out)) hb); clear HO294; clear HO297; clear HO300; clear HO305; clear BK286; clear BK287; clear BK306; clear HB; have HO294 := n0_; have HO297 := n1_; have HO300 := n2_; have HO305 := n3_; have HO309 := n4_; have BK286 := n5_; have BK287 := n6_; have BK306 := n7_; have HB := n8_; clear n0_ n1_ n2_ n3_ n4_ n5_ n6_ n7_ n8_; (try clear hb); (try clear hb2); (try clear hk); (try clear hi); (try clear ho0)) | ((with_reducible refine gate_dst (N := 12) rfl ?_); refine box_event ?hg (N := 12) ?hd (cs := #[.slice none 0 0]) (t := 40) ?hr ?_; (case hd => rfl); (case hg => rfl); (case hr => first | (go_simp; done) | (go_simp; rfl)); intro gb310 hg w60 hbox hb; have n0_ := Aside0.mk (Kd.R_below (by (with_reducible repeat (first | apply Kd.R_alloc | apply Kd.R_drewN | apply Kd.R_drew)); exact HO294.out) hb); have n1_ := Aside0.mk (Kd.R_below (by (with_reducible repeat (first | apply Kd.R_alloc | apply Kd.R_drewN | apply Kd.R_drew)); exact HO297.out) hb); have n2_ := Aside0.mk (Kd.R_below (by (with_reducible repeat (first | apply Kd.R_alloc | apply Kd.R_drewN | apply Kd.R_drew)); exact HO300.out) hb); have n3_ := Aside0.mk (Kd.R_below (by (with_reducible repeat (first | apply Kd.R_alloc | apply Kd.R_drewN | apply Kd.R_drew)); exact HO305.out) hb); have n4_ := Aside0.mk (Kd.R_below (by (with_reducible repeat (first | apply Kd.R_alloc | apply Kd.R_drewN | apply Kd.R_drew)); exact HO309.out) hb); have n5_ := Aside0.mk (blk_below (g := gb286) (o := .cells #[.int .i64 a0_0, .int .i64 a0_1, .slice A0_2 l0_2.length c0_2] 26 (0, 0)) (by (with_reducible repeat (first | refine blk_drewN ?_ _ | refine blk_drew ?_ | refine blk_alloc ?_ _)); exact BK286.out) hb); have n6_ := Aside0.mk (blk_below (g := gb287) (o := .cells #[.slice A1_0 l1_0.length c1_0] 56 (0, 0)) (by (with_reducible repeat (first | refine blk_drewN ?_ _ | refine blk_drew ?_ | refine blk_alloc ?_ _)); exact BK287.out) hb); have n7_ := Aside0.mk (blk_below (g := gb306) (o := .cells #[.int .i64 t301, .int .i64 t302, .slice Ao57 t303.length co57] 31 (0, 0)) (by (with_reducible repeat (first | refine blk_drewN ?_ _ | refine blk_drew ?_ | refine blk_alloc ?_ _)); exact BK306.out) hb); have n8_ := Aside0.mk (below_step (by repeat (first | (with_reducible first | exact HB.out | apply below_alloc | apply pw_below_drewN | apply below_drew1 | refine below_set ?_ GE286.out | refine below_set ?_ GE287.out | refine below_set ?_ GE306.out) | exact HB.out)) hb); have n9_ := Aside0.mk (hbox); have n10_ := Aside0.mk ((by rw [hg]; exact (below_size (by repeat (first | (with_reducible first | exact HB.out | apply below_alloc | apply pw_below_drewN | apply below_drew1 | refine below_set ?_ GE286.out | refine below_set ?_ GE287.out | refine below_set ?_ GE306.out) | exact HB.out))) : w.heap.size ≤ gb310)); have n11_ := Aside0.mk ((by rw [hg]; exact (below_size (by repeat (first | (with_reducible first | exact HB.out | apply below_alloc | apply pw_below_drewN | apply below_drew1 | refine below_set ?_ GE286.out | refine below_set ?_ GE287.out | refine below_set ?_ GE306.out) | exact HB.out))) : w.heap.size ≤ gb310)); have n12_ := Aside0.mk ((by rw [hg]; exact Nat.ne_of_lt (blk_lt (g := gb286) (o := .cells #[.int .i64 a0_0, .int .i64 a0_1, .slice A0_2 l0_2.length c0_2] 26 (0, 0)) (by (with_reducible repeat (first | refine blk_drewN ?_ _ | refine blk_drew ?_ | refine blk_alloc ?_ _)); exact BK286.out)) : gb286 ≠ gb310)); have n13_ := Aside0.mk ((by rw [hg]; exact Nat.ne_of_gt (blk_lt (g := gb286) (o := .cells #[.int .i64 a0_0, .int .i64 a0_1, .slice A0_2 l0_2.length c0_2] 26 (0, 0)) (by (with_reducible repeat (first | refine blk_drewN ?_ _ | refine blk_drew ?_ | refine blk_alloc ?_ _)); exact BK286.out)) : gb310 ≠ gb286)); have n14_ := Aside0.mk ((by rw [hg]; exact Nat.ne_of_lt (blk_lt (g := gb287) (o := .cells #[.slice A1_0 l1_0.length c1_0] 56 (0, 0)) (by (with_reducible repeat (first | refine blk_drewN ?_ _ | refine blk_drew ?_ | refine blk_alloc ?_ _)); exact BK287.out)) : gb287 ≠ gb310)); have n15_ := Aside0.mk ((by rw [hg]; exact Nat.ne_of_gt (blk_lt (g := gb287) (o := .cells #[.slice A1_0 l1_0.length c1_0] 56 (0, 0)) (by (with_reducible repeat (first | refine blk_drewN ?_ _ | refine blk_drew ?_ | refine blk_alloc ?_ _)); exact BK287.out)) : gb310 ≠ gb287)); have n16_ := Aside0.mk ((by rw [hg]; exact Nat.ne_of_lt (blk_lt (g := gb306) (o := .cells #[.int .i64 t301, .int .i64 t302, .slice Ao57 t303.length co57] 31 (0, 0)) (by (with_reducible repeat (first | refine blk_drewN ?_ _ | refine blk_drew ?_ | refine blk_alloc ?_ _)); exact BK306.out)) : gb306 ≠ gb310)); have n17_ := Aside0.mk ((by rw [hg]; exact Nat.ne_of_gt (blk_lt (g := gb306) (o := .cells #[.int .i64 t301, .int .i64 t302, .slice Ao57 t303.length co57] 31 (0, 0)) (by (with_reducible repeat (first | refine blk_drewN ?_ _ | refine blk_drew ?_ | refine blk_alloc ?_ _)); exact BK306.out)) : gb310 ≠ gb306)); clear HO294; clear HO297; clear HO300; clear HO305; clear HO309; clear BK286; clear BK287; clear BK306; clear HB; have HO294 := n0_; have HO297 := n1_; have HO300 := n2_; have HO305 := n3_; have HO309 := n4_; have BK286 := n5_; have BK287 := n6_; have BK306 := n7_; have HB := n8_; have BK310 := n9_; have GW310 := n10_; have GE310 := n11_; have NB286_310 := n12_; have NB310_286 := n13_; have NB287_310 := n14_; have NB310_287 := n15_; have NB306_310 := n16_; have NB310_306 := n17_; clear n0_ n1_ n2_ n3_ n4_ n5_ n6_ n7_ n8_ n9_ n10_ n11_ n12_ n13_ n14_ n15_ n16_ n17_; clear hb hbox hg; obtain ⟨Ao61, co61, eo61⟩ := Kd.R_slice HO309.out; subst eo61; have hnb62 := NB310_286.out; have hnc62 := NB286_310.out; have hnb63 := NB310_287.out; have hnc63 := NB287_310.out; have hnb64 := NB310_306.out; have hnc64 := NB306_310.out; have hcz65_0 : w60.cell? ⟨gb310, 0, none⟩ = some (.slice none 0 0) := (blk_cell BK310.out 0).trans rfl; have hfz65_0 := blk_frozen BK310.out 0; have hcz66_0 : w60.cell? ⟨gb306, 0, none⟩ = some (.int .i64 t301) := (blk_cell BK306.out 0).trans rfl; have hcz66_1 : w60.cell? ⟨gb306, 1, none⟩ = some (.int .i64 t302) := (blk_cell BK306.out 1).trans rfl; have hcz66_2 : w60.cell? ⟨gb306, 2, none⟩ = some (.slice Ao57 t303.length co57) := (blk_cell BK306.out 2).trans rfl; have hfz66_0 := blk_frozen BK306.out 0; have hfz66_1 := blk_frozen BK306.out 1; have hfz66_2 := blk_frozen BK306.out 2) | ((with_reducible refine gate_callee (f := 21) rfl ?_); refine goesL_ (some 43) rfl rfl Try.func21 (by kernel_rfl) rfl #[.agg #[.int .i64 t301, .int .i64 t302, .slice Ao57 t303.length co57], .agg #[.slice Ao61 t307.length co61], .int .i64 a2, .int .i64 a3] rfl (by (try simp only [List.map_toArray, List.map_cons, List.map_nil]); first | done | rfl | (simp only [List.length_drop, List.length_take]; rfl)) ?_; (with_reducible refine (impl_WalkTable.calls k t301 t302 _ _ t303 _ _ t307 a2 a3 t311 _ ?side1 ?side2 ?side3 ?side4 A26.out).mono ?_); (case side1 => refine (Kd.R_reads' (e := 3) (base := w.heap.size) (ok := fun k_ => ((((True ∧ some k_ ≠ (.slice Ao48 t292.length co48 : Value).ownBlock) ∧ some k_ ≠ (.slice Ao49 t295.length co49 : Value).ownBlock) ∧ some k_ ≠ (v299 : Value).ownBlock) ∧ some k_ ≠ (.slice Ao61 t307.length co61 : Value).ownBlock)) (n := t303.length) (c := co57) ?_).2.2; exact (by (with_reducible repeat (first | apply Kd.R_alloc | apply Kd.R_drewN | apply Kd.R_drew)); exact (Kd.R_mono (Kd.R_far (p := ⟨gb310, 0, none⟩) (Kd.R_types HO305.out BK310.out (by decide)) (fun _ hk => by first | exact hk.2 | (simp_all; done) | grind) (.slice Ao61 t307.length co61)) (fun _ h_ => h_.1)))); (case side2 => exact (Kd.R_reads' HO305.out).2.1); (case side3 => refine (Kd.R_reads' (e := 3) (base := w.heap.size) (ok := fun k_ => ((((True ∧ some k_ ≠ (.slice Ao48 t292.length co48 : Value).ownBlock) ∧ some k_ ≠ (.slice Ao49 t295.length co49 : Value).ownBlock) ∧ some k_ ≠ (v299 : Value).ownBlock) ∧ some k_ ≠ (.slice Ao57 t303.length co57 : Value).ownBlock)) (n := t307.length) (c := co61) ?_).2.2; exact (by (with_reducible repeat (first | apply Kd.R_alloc | apply Kd.R_drewN | apply Kd.R_drew)); exact (Kd.R_mono (Kd.R_far (p := ⟨gb310, 0, none⟩) (Kd.R_types HO309.out BK310.out (by decide)) (fun _ hk => by first | exact hk.2 | (simp_all; done) | grind) (.slice Ao61 t307.length co61)) (fun _ h_ => h_.1)))); (case side4 => exact (Kd.R_reads' HO309.out).2.1); rintro e w67 ⟨v312, rfl, ho0, hb⟩; refine ⟨_, rfl, ?_⟩; have n0_ := Aside0.mk (Kd.R_elder' (by (with_reducible repeat (first | apply Kd.R_alloc | apply Kd.R_drewN | apply Kd.R_drew)); exact (Kd.R_mono (Kd.R_far (p := ⟨gb310, 0, none⟩) (Kd.R_types HO294.out BK310.out (by decide)) (fun _ hk => by first | exact hk.2 | (simp_all; done) | grind) (.slice Ao61 t307.length co61)) (fun _ h_ => h_.1))) (Kd.R_base ho0) hb); have n1_ := Aside0.mk (Kd.R_elder' (by (with_reducible repeat (first | apply Kd.R_alloc | apply Kd.R_drewN | apply Kd.R_drew)); exact (Kd.R_mono (Kd.R_far (p := ⟨gb310, 0, none⟩) (Kd.R_types HO297.out BK310.out (by decide)) (fun _ hk => by first | exact hk.2 | (simp_all; done) | grind) (.slice Ao61 t307.length co61)) (fun _ h_ => h_.1))) (Kd.R_base ho0) hb); have n2_ := Aside0.mk (Kd.R_elder' (by (with_reducible repeat (first | apply Kd.R_alloc | apply Kd.R_drewN | apply Kd.R_drew)); exact (Kd.R_mono (Kd.R_far (p := ⟨gb310, 0, none⟩) (Kd.R_types HO300.out BK310.out (by decide)) (fun _ hk => by first | exact hk.2 | (simp_all; done) | grind) (.slice Ao61 t307.length co61)) (fun _ h_ => h_.1))) (Kd.R_base ho0) hb); have n3_ := Aside0.mk (Kd.R_elder' (by (with_reducible repeat (first | apply Kd.R_alloc | apply Kd.R_drewN | apply Kd.R_drew)); exact (Kd.R_mono (Kd.R_far (p := ⟨gb310, 0, none⟩) (Kd.R_types HO305.out BK310.out (by decide)) (fun _ hk => by first | exact hk.2 | (simp_all; done) | grind) (.slice Ao61 t307.length co61)) (fun _ h_ => h_.1))) (Kd.R_base ho0) hb); have n4_ := Aside0.mk (Kd.R_elder' (by (with_reducible repeat (first | apply Kd.R_alloc | apply Kd.R_drewN | apply Kd.R_drew)); exact (Kd.R_mono (Kd.R_far (p := ⟨gb310, 0, none⟩) (Kd.R_types HO309.out BK310.out (by decide)) (fun _ hk => by first | exact hk.2 | (simp_all; done) | grind) (.slice Ao61 t307.length co61)) (fun _ h_ => h_.1))) (Kd.R_base ho0) hb); have n5_ := Aside0.mk (Kd.R_lower (Kd.R_new' (Kd.R_new' (Kd.R_new' (Kd.R_new' (Kd.R_new' ho0 (Kd.R_lt (by (with_reducible repeat (first | apply Kd.R_alloc | apply Kd.R_drewN | apply Kd.R_drew)); exact (Kd.R_mono (Kd.R_far (p := ⟨gb310, 0, none⟩) (Kd.R_types HO294.out BK310.out (by decide)) (fun _ hk => by first | exact hk.2 | (simp_all; done) | grind) (.slice Ao61 t307.length co61)) (fun _ h_ => h_.1))))) (Kd.R_lt (by (with_reducible repeat (first | apply Kd.R_alloc | apply Kd.R_drewN | apply Kd.R_drew)); exact (Kd.R_mono (Kd.R_far (p := ⟨gb310, 0, none⟩) (Kd.R_types HO297.out BK310.out (by decide)) (fun _ hk => by first | exact hk.2 | (simp_all; done) | grind) (.slice Ao61 t307.length co61)) (fun _ h_ => h_.1))))) (Kd.R_lt (by (with_reducible repeat (first | apply Kd.R_alloc | apply Kd.R_drewN | apply Kd.R_drew)); exact (Kd.R_mono (Kd.R_far (p := ⟨gb310, 0, none⟩) (Kd.R_types HO300.out BK310.out (by decide)) (fun _ hk => by first | exact hk.2 | (simp_all; done) | grind) (.slice Ao61 t307.length co61)) (fun _ h_ => h_.1))))) (Kd.R_lt (by (with_reducible repeat (first | apply Kd.R_alloc | apply Kd.R_drewN | apply Kd.R_drew)); exact (Kd.R_mono (Kd.R_far (p := ⟨gb310, 0, none⟩) (Kd.R_types HO305.out BK310.out (by decide)) (fun _ hk => by first | exact hk.2 | (simp_all; done) | grind) (.slice Ao61 t307.length co61)) (fun _ h_ => h_.1))))) (Kd.R_lt (by (with_reducible repeat (first | apply Kd.R_alloc | apply Kd.R_drewN | apply Kd.R_drew)); exact (Kd.R_mono (Kd.R_far (p := ⟨gb310, 0, none⟩) (Kd.R_types HO309.out BK310.out (by decide)) (fun _ hk => by first | exact hk.2 | (simp_all; done) | grind) (.slice Ao61 t307.length co61)) (fun _ h_ => h_.1))))) (below_size (by repeat (first | (with_reducible first | exact HB.out | apply below_alloc | apply pw_below_drewN | apply below_drew1 | refine below_set ?_ GE286.out | refine below_set ?_ GE287.out | refine below_set ?_ GE306.out | refine below_set ?_ GE310.out) | exact HB.out)))); have n6_ := Aside0.mk (blk_below (g := gb286) (o := .cells #[.int .i64 a0_0, .int .i64 a0_1, .slice A0_2 l0_2.length c0_2] 26 (0, 0)) (by (with_reducible repeat (first | refine blk_drewN ?_ _ | refine blk_drew ?_ | refine blk_alloc ?_ _)); refine blk_far ?_ NB286_310.out _; (with_reducible repeat (first | refine blk_drewN ?_ _ | refine blk_drew ?_ | refine blk_alloc ?_ _)); exact BK286.out) hb); have n7_ := Aside0.mk (blk_below (g := gb287) (o := .cells #[.slice A1_0 l1_0.length c1_0] 56 (0, 0)) (by (with_reducible repeat (first | refine blk_drewN ?_ _ | refine blk_drew ?_ | refine blk_alloc ?_ _)); refine blk_far ?_ NB287_310.out _; (with_reducible repeat (first | refine blk_drewN ?_ _ | refine blk_drew ?_ | refine blk_alloc ?_ _)); exact BK287.out) hb); have n8_ := Aside0.mk (blk_below (g := gb306) (o := .cells #[.int .i64 t301, .int .i64 t302, .slice Ao57 t303.length co57] 31 (0, 0)) (by (with_reducible repeat (first | refine blk_drewN ?_ _ | refine blk_drew ?_ | refine blk_alloc ?_ _)); refine blk_far ?_ NB306_310.out _; (with_reducible repeat (first | refine blk_drewN ?_ _ | refine blk_drew ?_ | refine blk_alloc ?_ _)); exact BK306.out) hb); have n9_ := Aside0.mk (blk_below (g := gb310) (o := .cells #[.slice Ao61 t307.length co61] 40 (0, 0)) (by (with_reducible repeat (first | refine blk_drewN ?_ _ | refine blk_drew ?_ | refine blk_alloc ?_ _)); refine blk_put (cs := #[.slice none 0 0]) ?_ 0 _ rfl; (with_reducible repeat (first | refine blk_drewN ?_ _ | refine blk_drew ?_ | refine blk_alloc ?_ _)); exact BK310.out) hb); have n10_ := Aside0.mk (below_step (by repeat (first | (with_reducible first | exact HB.out | apply below_alloc | apply pw_below_drewN | apply below_drew1 | refine below_set ?_ GE286.out | refine below_set ?_ GE287.out | refine below_set ?_ GE306.out | refine below_set ?_ GE310.out) | exact HB.out)) hb); clear HO294; clear HO297; clear HO300; clear HO305; clear HO309; clear BK286; clear BK287; clear BK306; clear BK310; clear HB; have HO294 := n0_; have HO297 := n1_; have HO300 := n2_; have HO305 := n3_; have HO309 := n4_; have HO313 := n5_; have BK286 := n6_; have BK287 := n7_; have BK306 := n8_; have BK310 := n9_; have HB := n10_; clear n0_ n1_ n2_ n3_ n4_ n5_ n6_ n7_ n8_ n9_ n10_; (try clear hb); (try clear hb2); (try clear hk); (try clear hi); (try clear ho0); obtain ⟨Ao68, co68, eo68⟩ := Kd.R_slice HO313.out; subst eo68; obtain ⟨Ao69, co69, eo69⟩ := Kd.R_slice HO300.out; subst eo69) | ((with_reducible refine gate_callee (f := 17) rfl ?_); refine goesL_ (some 46) rfl rfl Try.func17 (by kernel_rfl) rfl #[.slice Ao68 t311.length co68, .slice Ao69 t298.length co69] rfl (by (try simp only [List.map_toArray, List.map_cons, List.map_nil]); first | done | rfl | (simp only [List.length_drop, List.length_take]; rfl)) ?_; (with_reducible refine (laws_eqIntS.calls k _ _ t311 _ _ t298 true _ ?side1 ?side2 ?side3 ?side4 A27.out).mono ?_); (case side1 => repeat (first | exact (Kd.R_reads' HO313.out).2.2 | (with_reducible refine Kd.C_alloc ?_ _) | (with_reducible refine Kd.C_drewN ?_ _) | (with_reducible refine Kd.C_drew ?_))); (case side2 => exact (Kd.R_reads' HO313.out).2.1); (case side3 => repeat (first | exact (Kd.R_reads' HO300.out).2.2 | (with_reducible refine Kd.C_alloc ?_ _) | (with_reducible refine Kd.C_drewN ?_ _) | (with_reducible refine Kd.C_drew ?_))); (case side4 => exact (Kd.R_reads' HO300.out).2.1); rintro e w' ⟨rfl, ⟨nd, rfl⟩⟩; refine ⟨_, rfl, ?_⟩))
            (try (rw [drewN_self w67]; generalize hq_ : World.drewN w67 _ = w67; have n0_ : Aside0 (Kd.R (Kd.int .i64) 3 w67 w.heap.size (fun k_ => some k_ ≠ (.slice Ao49 t295.length co49 : Value).ownBlock ∧ some k_ ≠ (.slice Ao69 t298.length co69 : Value).ownBlock ∧ some k_ ≠ (.slice Ao57 t303.length co57 : Value).ownBlock ∧ some k_ ≠ (.slice Ao61 t307.length co61 : Value).ownBlock ∧ some k_ ≠ (.slice Ao68 t311.length co68 : Value).ownBlock) (.slice Ao48 t292.length co48) t292) := ⟨by rw [← hq_]; exact (by (with_reducible repeat (first | apply Kd.R_alloc | apply Kd.R_drewN | apply Kd.R_drew)); exact Kd.R_mono HO294.out (fun _ hk => ⟨hk.1.1.1.1.2, ⟨hk.1.1.1.2, ⟨hk.1.1.2, ⟨hk.1.2, hk.2⟩⟩⟩⟩))⟩; have n1_ : Aside0 (Kd.R (Kd.int .i64) 3 w67 w.heap.size (fun k_ => some k_ ≠ (.slice Ao48 t292.length co48 : Value).ownBlock ∧ some k_ ≠ (.slice Ao69 t298.length co69 : Value).ownBlock ∧ some k_ ≠ (.slice Ao57 t303.length co57 : Value).ownBlock ∧ some k_ ≠ (.slice Ao61 t307.length co61 : Value).ownBlock ∧ some k_ ≠ (.slice Ao68 t311.length co68 : Value).ownBlock) (.slice Ao49 t295.length co49) t295) := ⟨by rw [← hq_]; exact (by (with_reducible repeat (first | apply Kd.R_alloc | apply Kd.R_drewN | apply Kd.R_drew)); exact Kd.R_mono HO297.out (fun _ hk => ⟨hk.1.1.1.1.2, ⟨hk.1.1.1.2, ⟨hk.1.1.2, ⟨hk.1.2, hk.2⟩⟩⟩⟩))⟩; have n2_ : Aside0 (Kd.R (Kd.int .i64) 3 w67 w.heap.size (fun k_ => some k_ ≠ (.slice Ao48 t292.length co48 : Value).ownBlock ∧ some k_ ≠ (.slice Ao49 t295.length co49 : Value).ownBlock ∧ some k_ ≠ (.slice Ao57 t303.length co57 : Value).ownBlock ∧ some k_ ≠ (.slice Ao61 t307.length co61 : Value).ownBlock ∧ some k_ ≠ (.slice Ao68 t311.length co68 : Value).ownBlock) (.slice Ao69 t298.length co69) t298) := ⟨by rw [← hq_]; exact (by (with_reducible repeat (first | apply Kd.R_alloc | apply Kd.R_drewN | apply Kd.R_drew)); exact Kd.R_mono HO300.out (fun _ hk => ⟨hk.1.1.1.1.2, ⟨hk.1.1.1.2, ⟨hk.1.1.2, ⟨hk.1.2, hk.2⟩⟩⟩⟩))⟩; have n3_ : Aside0 (Kd.R (Kd.int .i64) 3 w67 w.heap.size (fun k_ => some k_ ≠ (.slice Ao48 t292.length co48 : Value).ownBlock ∧ some k_ ≠ (.slice Ao49 t295.length co49 : Value).ownBlock ∧ some k_ ≠ (.slice Ao69 t298.length co69 : Value).ownBlock ∧ some k_ ≠ (.slice Ao61 t307.length co61 : Value).ownBlock ∧ some k_ ≠ (.slice Ao68 t311.length co68 : Value).ownBlock) (.slice Ao57 t303.length co57) t303) := ⟨by rw [← hq_]; exact (by (with_reducible repeat (first | apply Kd.R_alloc | apply Kd.R_drewN | apply Kd.R_drew)); exact Kd.R_mono HO305.out (fun _ hk => ⟨hk.1.1.1.1.2, ⟨hk.1.1.1.2, ⟨hk.1.1.2, ⟨hk.1.2, hk.2⟩⟩⟩⟩))⟩; have n4_ : Aside0 (Kd.R (Kd.int .i64) 3 w67 w.heap.size (fun k_ => some k_ ≠ (.slice Ao48 t292.length co48 : Value).ownBlock ∧ some k_ ≠ (.slice Ao49 t295.length co49 : Value).ownBlock ∧ some k_ ≠ (.slice Ao69 t298.length co69 : Value).ownBlock ∧ some k_ ≠ (.slice Ao57 t303.length co57 : Value).ownBlock ∧ some k_ ≠ (.slice Ao68 t311.length co68 : Value).ownBlock) (.slice Ao61 t307.length co61) t307) := ⟨by rw [← hq_]; exact (by (with_reducible repeat (first | apply Kd.R_alloc | apply Kd.R_drewN | apply Kd.R_drew)); exact Kd.R_mono HO309.out (fun _ hk => ⟨hk.1.1.1.1.2, ⟨hk.1.1.1.2, ⟨hk.1.1.2, ⟨hk.1.2, hk.2⟩⟩⟩⟩))⟩; have n5_ : Aside0 (Kd.R (Kd.int .i64) 3 w67 w.heap.size (fun k_ => some k_ ≠ (.slice Ao48 t292.length co48 : Value).ownBlock ∧ some k_ ≠ (.slice Ao49 t295.length co49 : Value).ownBlock ∧ some k_ ≠ (.slice Ao69 t298.length co69 : Value).ownBlock ∧ some k_ ≠ (.slice Ao57 t303.length co57 : Value).ownBlock ∧ some k_ ≠ (.slice Ao61 t307.length co61 : Value).ownBlock) (.slice Ao68 t311.length co68) t311) := ⟨by rw [← hq_]; exact (by (with_reducible repeat (first | apply Kd.R_alloc | apply Kd.R_drewN | apply Kd.R_drew)); exact Kd.R_mono HO313.out (fun _ hk => ⟨hk.1.1.1.1.2, ⟨hk.1.1.1.2, ⟨hk.1.1.2, ⟨hk.1.2, hk.2⟩⟩⟩⟩))⟩; have n6_ : Aside0 (w67.heap[gb286]? = some (.cells #[.int .i64 a0_0, .int .i64 a0_1, .slice A0_2 l0_2.length c0_2] 26 (0, 0))) := ⟨by rw [← hq_]; exact (by (with_reducible repeat (first | refine blk_drewN ?_ _ | refine blk_drew ?_ | refine blk_alloc ?_ _)); exact BK286.out)⟩; have n7_ : Aside0 (w67.heap[gb287]? = some (.cells #[.slice A1_0 l1_0.length c1_0] 56 (0, 0))) := ⟨by rw [← hq_]; exact (by (with_reducible repeat (first | refine blk_drewN ?_ _ | refine blk_drew ?_ | refine blk_alloc ?_ _)); exact BK287.out)⟩; have n8_ : Aside0 (w67.heap[gb306]? = some (.cells #[.int .i64 t301, .int .i64 t302, .slice Ao57 t303.length co57] 31 (0, 0))) := ⟨by rw [← hq_]; exact (by (with_reducible repeat (first | refine blk_drewN ?_ _ | refine blk_drew ?_ | refine blk_alloc ?_ _)); exact BK306.out)⟩; have n9_ : Aside0 (w67.heap[gb310]? = some (.cells #[.slice Ao61 t307.length co61] 40 (0, 0))) := ⟨by rw [← hq_]; exact (by (with_reducible repeat (first | refine blk_drewN ?_ _ | refine blk_drew ?_ | refine blk_alloc ?_ _)); exact BK310.out)⟩; have n10_ : Aside0 (Below w.heap.size w w67) := ⟨by rw [← hq_]; exact (by repeat (first | (with_reducible first | exact HB.out | apply below_alloc | apply pw_below_drewN | apply below_drew1 | refine below_set ?_ GE286.out | refine below_set ?_ GE287.out | refine below_set ?_ GE306.out | refine below_set ?_ GE310.out) | exact HB.out))⟩; clear HO294 HO297 HO300 HO305 HO309 HO313 BK286 BK287 BK306 BK310 HB hq_; have HO294 := n0_; have HO297 := n1_; have HO300 := n2_; have HO305 := n3_; have HO309 := n4_; have HO313 := n5_; have BK286 := n6_; have BK287 := n7_; have BK306 := n8_; have BK310 := n9_; have HB := n10_; clear n0_ n1_ n2_ n3_ n4_ n5_ n6_ n7_ n8_ n9_ n10_))
            have n0_ := Aside0.mk (Kd.R_drew HO294.out)
            have n1_ := Aside0.mk (Kd.R_drew HO297.out)
            have n2_ := Aside0.mk (Kd.R_drew HO300.out)
            have n3_ := Aside0.mk (Kd.R_drew HO305.out)
            have n4_ := Aside0.mk (Kd.R_drew HO309.out)
            have n5_ := Aside0.mk (Kd.R_drew HO313.out)
            have n6_ := Aside0.mk (blk_drew BK286.out)
            have n7_ := Aside0.mk (blk_drew BK287.out)
            have n8_ := Aside0.mk (blk_drew BK306.out)
            have n9_ := Aside0.mk (blk_drew BK310.out)
            have n10_ := Aside0.mk (below_drew1 HB.out)
            clear HO294
            clear HO297
            clear HO300
            clear HO305
            clear HO309
            clear HO313
            clear BK286
            clear BK287
            clear BK306
            clear BK310
            clear HB
            have HO294 := n0_
            have HO297 := n1_
            have HO300 := n2_
            have HO305 := n3_
            have HO309 := n4_
            have HO313 := n5_
            have BK286 := n6_
            have BK287 := n7_
            have BK306 := n8_
            have BK310 := n9_
            have HB := n10_
            clear n0_ n1_ n2_ n3_ n4_ n5_ n6_ n7_ n8_ n9_ n10_
            refine start_ (n := 5) (S := fun w' => w'.cell? ⟨gb306, 0, none⟩ = some (.int .i64 t301) ∧ w'.cell? ⟨gb306, 1, none⟩ = some (.int .i64 t302) ∧ w'.cell? ⟨gb306, 2, none⟩ = some (.slice Ao57 t303.length co57) ∧ w'.cell? ⟨gb286, 0, none⟩ = some (.int .i64 a0_0) ∧ w'.cell? ⟨gb286, 1, none⟩ = some (.int .i64 a0_1) ∧ w'.cell? ⟨gb286, 2, none⟩ = some (.slice A0_2 l0_2.length c0_2)) (ds := []) #[false, false, false, false, false] (by kernel_rfl) rfl rfl ⟨(blk_cell BK306.out 0).trans rfl, (blk_cell BK306.out 1).trans rfl, (blk_cell BK306.out 2).trans rfl, (blk_cell BK286.out 0).trans rfl, (blk_cell BK286.out 1).trans rfl, (blk_cell BK286.out 2).trans rfl⟩ (fun hHeld => ?_)
            generalize w67.drew = w70 at HO294 HO297 HO300 HO305 HO309 HO313 BK286 BK287 BK306 BK310 HB hHeld ⊢
            refine take_ (i := 0) (N := some 48) (v := ?_) (a' := ?_) #[true, false, false, false, false] rfl rfl (by kernel_rfl) (fun _ _ _ h => h) (Or.inl ⟨by rfl, ?_⟩) hHeld ?_ ?_
            rotate_left
            · rintro w' ⟨s0, s1, s2, s3, s4, s5⟩
              go_simp
              with_reducible rfl
            rotate_left
            · simp only [Act.put, List.setIfInBounds_toArray, List.set_cons_zero, List.set_cons_succ, i64_w, i32_w]
              rfl
            refine take_ (i := 1) (N := some 49) (v := ?_) (a' := ?_) #[true, true, false, false, false] rfl rfl (by kernel_rfl) (fun _ _ _ h => h) (Or.inl ⟨by rfl, ?_⟩) hHeld ?_ ?_
            rotate_left
            · rintro w' ⟨s0, s1, s2, s3, s4, s5⟩
              go_simp
              with_reducible rfl
            rotate_left
            · simp only [Act.put, List.setIfInBounds_toArray, List.set_cons_zero, List.set_cons_succ, i64_w, i32_w]
              rfl
            refine one_ (i := 2) (N := some 50) #[true, true, true, false, false] rfl rfl (by kernel_rfl) (by decide) (fun K hK => ?_)
            refine goes_ Try.func13 (by kernel_rfl) rfl #[.agg #[.int .i64 a0_0, .int .i64 a0_1, .slice A0_2 l0_2.length c0_2]] (by rfl) rfl rfl (by (try simp only [List.map_toArray, List.map_cons, List.map_nil]); first | done | rfl | (simp only [List.length_drop, List.length_take]; rfl)) ?_
            with_reducible refine (laws_toMesh.calls k a0_0 a0_1 _ _ l0_2 t315 t316 t317 _ ?side1 ?side2 A29.out).mono ?_
            (case side1 => repeat (first | exact (Kd.C_below HR0_2.out HB.out) | (with_reducible refine Kd.C_alloc ?_ _) | (with_reducible refine Kd.C_drewN ?_ _) | (with_reducible refine Kd.C_drew ?_)))
            (case side2 => exact HC0_2.out)
            rintro e w71 ⟨v318, rfl, ho0, hb⟩
            refine ⟨_, rfl, ?_⟩
            have n0_ := Aside0.mk (Kd.R_elder' (by (with_reducible repeat (first | apply Kd.R_alloc | apply Kd.R_drewN | apply Kd.R_drew)); exact HO294.out) (Kd.R_base ho0) hb)
            have n1_ := Aside0.mk (Kd.R_elder' (by (with_reducible repeat (first | apply Kd.R_alloc | apply Kd.R_drewN | apply Kd.R_drew)); exact HO297.out) (Kd.R_base ho0) hb)
            have n2_ := Aside0.mk (Kd.R_elder' (by (with_reducible repeat (first | apply Kd.R_alloc | apply Kd.R_drewN | apply Kd.R_drew)); exact HO300.out) (Kd.R_base ho0) hb)
            have n3_ := Aside0.mk (Kd.R_elder' (by (with_reducible repeat (first | apply Kd.R_alloc | apply Kd.R_drewN | apply Kd.R_drew)); exact HO305.out) (Kd.R_base ho0) hb)
            have n4_ := Aside0.mk (Kd.R_elder' (by (with_reducible repeat (first | apply Kd.R_alloc | apply Kd.R_drewN | apply Kd.R_drew)); exact HO309.out) (Kd.R_base ho0) hb)
            have n5_ := Aside0.mk (Kd.R_elder' (by (with_reducible repeat (first | apply Kd.R_alloc | apply Kd.R_drewN | apply Kd.R_drew)); exact HO313.out) (Kd.R_base ho0) hb)
            have n6_ := Aside0.mk (Kd.R_lower (Kd.R_new' (Kd.R_new' (Kd.R_new' (Kd.R_new' (Kd.R_new' (Kd.R_new' ho0 (Kd.R_lt (by (with_reducible repeat (first | apply Kd.R_alloc | apply Kd.R_drewN | apply Kd.R_drew)); exact HO294.out))) (Kd.R_lt (by (with_reducible repeat (first | apply Kd.R_alloc | apply Kd.R_drewN | apply Kd.R_drew)); exact HO297.out))) (Kd.R_lt (by (with_reducible repeat (first | apply Kd.R_alloc | apply Kd.R_drewN | apply Kd.R_drew)); exact HO300.out))) (Kd.R_lt (by (with_reducible repeat (first | apply Kd.R_alloc | apply Kd.R_drewN | apply Kd.R_drew)); exact HO305.out))) (Kd.R_lt (by (with_reducible repeat (first | apply Kd.R_alloc | apply Kd.R_drewN | apply Kd.R_drew)); exact HO309.out))) (Kd.R_lt (by (with_reducible repeat (first | apply Kd.R_alloc | apply Kd.R_drewN | apply Kd.R_drew)); exact HO313.out))) (below_size (by repeat (first | (with_reducible first | exact HB.out | apply below_alloc | apply pw_below_drewN | apply below_drew1 | refine below_set ?_ GE286.out | refine below_set ?_ GE287.out | refine below_set ?_ GE306.out | refine below_set ?_ GE310.out) | exact HB.out))))
            have n7_ := Aside0.mk (blk_below (g := gb286) (o := .cells #[.int .i64 a0_0, .int .i64 a0_1, .slice A0_2 l0_2.length c0_2] 26 (0, 0)) (by (with_reducible repeat (first | refine blk_drewN ?_ _ | refine blk_drew ?_ | refine blk_alloc ?_ _)); exact BK286.out) hb)
            have n8_ := Aside0.mk (blk_below (g := gb287) (o := .cells #[.slice A1_0 l1_0.length c1_0] 56 (0, 0)) (by (with_reducible repeat (first | refine blk_drewN ?_ _ | refine blk_drew ?_ | refine blk_alloc ?_ _)); exact BK287.out) hb)
            have n9_ := Aside0.mk (blk_below (g := gb306) (o := .cells #[.int .i64 t301, .int .i64 t302, .slice Ao57 t303.length co57] 31 (0, 0)) (by (with_reducible repeat (first | refine blk_drewN ?_ _ | refine blk_drew ?_ | refine blk_alloc ?_ _)); exact BK306.out) hb)
            have n10_ := Aside0.mk (blk_below (g := gb310) (o := .cells #[.slice Ao61 t307.length co61] 40 (0, 0)) (by (with_reducible repeat (first | refine blk_drewN ?_ _ | refine blk_drew ?_ | refine blk_alloc ?_ _)); exact BK310.out) hb)
            have n11_ := Aside0.mk (below_step (by repeat (first | (with_reducible first | exact HB.out | apply below_alloc | apply pw_below_drewN | apply below_drew1 | refine below_set ?_ GE286.out | refine below_set ?_ GE287.out | refine below_set ?_ GE306.out | refine below_set ?_ GE310.out) | exact HB.out)) hb)
            clear HO294
            clear HO297
            clear HO300
            clear HO305
            clear HO309
            clear HO313
            clear BK286
            clear BK287
            clear BK306
            clear BK310
            clear HB
            have HO294 := n0_
            have HO297 := n1_
            have HO300 := n2_
            have HO305 := n3_
            have HO309 := n4_
            have HO313 := n5_
            have HO319 := n6_
            have BK286 := n7_
            have BK287 := n8_
            have BK306 := n9_
            have BK310 := n10_
            have HB := n11_
            clear n0_ n1_ n2_ n3_ n4_ n5_ n6_ n7_ n8_ n9_ n10_ n11_
            (try clear hb)
            (try clear hb2)
            (try clear hk)
            (try clear hi)
            (try clear ho0)
            obtain ⟨Ao72, co72, eo72⟩ := Kd.R_slice HO319.out
            (first | subst eo72 | (injection eo72 with f1_ f2_ f3_; have f4_ := f1_.symm; have f5_ := f3_.symm; clear f1_ f2_ f3_; subst f4_; subst f5_))
            refine hK.out _ _ ⟨(blk_cell BK306.out 0).trans rfl, (blk_cell BK306.out 1).trans rfl, (blk_cell BK306.out 2).trans rfl, (blk_cell BK286.out 0).trans rfl, (blk_cell BK286.out 1).trans rfl, (blk_cell BK286.out 2).trans rfl⟩ (fun hHeld => ?_)
            clear hK K
            refine norm_ (a' := ?_) ?_ ?_
            rotate_left
            · show Act.put _ (some 50) _ = _
              simp only [Act.put, List.setIfInBounds_toArray, List.set_cons_zero, List.set_cons_succ, i64_w, i32_w]
              rfl
            refine one_ (i := 3) (N := some 51) #[true, true, true, true, false] rfl rfl (by kernel_rfl) (by decide) (fun K hK => ?_)
            refine goes_ Try.func16 (by kernel_rfl) rfl #[.agg #[.int .i64 t301, .int .i64 t302, .slice Ao57 t303.length co57], .agg #[.int .i64 t315, .int .i64 t316, .slice Ao72 t317.length co72]] (by rfl) rfl rfl (by (try simp only [List.map_toArray, List.map_cons, List.map_nil]); first | done | rfl | (simp only [List.length_drop, List.length_take]; rfl)) ?_
            with_reducible refine (laws_eqMesh.calls k t301 t302 _ _ t303 t315 t316 _ _ t317 true _ ?side1 ?side2 ?side3 ?side4 A30.out).mono ?_
            (case side1 => repeat (first | exact (Kd.R_reads' HO305.out).2.2 | (with_reducible refine Kd.C_alloc ?_ _) | (with_reducible refine Kd.C_drewN ?_ _) | (with_reducible refine Kd.C_drew ?_)))
            (case side2 => exact (Kd.R_reads' HO305.out).2.1)
            (case side3 => repeat (first | exact (Kd.R_reads' HO319.out).2.2 | (with_reducible refine Kd.C_alloc ?_ _) | (with_reducible refine Kd.C_drewN ?_ _) | (with_reducible refine Kd.C_drew ?_)))
            (case side4 => exact (Kd.R_reads' HO319.out).2.1)
            rintro e w73 ⟨rfl, hb⟩
            refine ⟨_, rfl, ?_⟩
            have n0_ := Aside0.mk (Kd.R_below (by (with_reducible repeat (first | apply Kd.R_alloc | apply Kd.R_drewN | apply Kd.R_drew)); exact HO294.out) hb)
            have n1_ := Aside0.mk (Kd.R_below (by (with_reducible repeat (first | apply Kd.R_alloc | apply Kd.R_drewN | apply Kd.R_drew)); exact HO297.out) hb)
            have n2_ := Aside0.mk (Kd.R_below (by (with_reducible repeat (first | apply Kd.R_alloc | apply Kd.R_drewN | apply Kd.R_drew)); exact HO300.out) hb)
            have n3_ := Aside0.mk (Kd.R_below (by (with_reducible repeat (first | apply Kd.R_alloc | apply Kd.R_drewN | apply Kd.R_drew)); exact HO305.out) hb)
            have n4_ := Aside0.mk (Kd.R_below (by (with_reducible repeat (first | apply Kd.R_alloc | apply Kd.R_drewN | apply Kd.R_drew)); exact HO309.out) hb)
            have n5_ := Aside0.mk (Kd.R_below (by (with_reducible repeat (first | apply Kd.R_alloc | apply Kd.R_drewN | apply Kd.R_drew)); exact HO313.out) hb)
            have n6_ := Aside0.mk (Kd.R_below (by (with_reducible repeat (first | apply Kd.R_alloc | apply Kd.R_drewN | apply Kd.R_drew)); exact HO319.out) hb)
            have n7_ := Aside0.mk (blk_below (g := gb286) (o := .cells #[.int .i64 a0_0, .int .i64 a0_1, .slice A0_2 l0_2.length c0_2] 26 (0, 0)) (by (with_reducible repeat (first | refine blk_drewN ?_ _ | refine blk_drew ?_ | refine blk_alloc ?_ _)); exact BK286.out) hb)
            have n8_ := Aside0.mk (blk_below (g := gb287) (o := .cells #[.slice A1_0 l1_0.length c1_0] 56 (0, 0)) (by (with_reducible repeat (first | refine blk_drewN ?_ _ | refine blk_drew ?_ | refine blk_alloc ?_ _)); exact BK287.out) hb)
            have n9_ := Aside0.mk (blk_below (g := gb306) (o := .cells #[.int .i64 t301, .int .i64 t302, .slice Ao57 t303.length co57] 31 (0, 0)) (by (with_reducible repeat (first | refine blk_drewN ?_ _ | refine blk_drew ?_ | refine blk_alloc ?_ _)); exact BK306.out) hb)
            have n10_ := Aside0.mk (blk_below (g := gb310) (o := .cells #[.slice Ao61 t307.length co61] 40 (0, 0)) (by (with_reducible repeat (first | refine blk_drewN ?_ _ | refine blk_drew ?_ | refine blk_alloc ?_ _)); exact BK310.out) hb)
            have n11_ := Aside0.mk (below_step (by repeat (first | (with_reducible first | exact HB.out | apply below_alloc | apply pw_below_drewN | apply below_drew1 | refine below_set ?_ GE286.out | refine below_set ?_ GE287.out | refine below_set ?_ GE306.out | refine below_set ?_ GE310.out) | exact HB.out)) hb)
            clear HO294
            clear HO297
            clear HO300
            clear HO305
            clear HO309
            clear HO313
            clear HO319
            clear BK286
            clear BK287
            clear BK306
            clear BK310
            clear HB
            have HO294 := n0_
            have HO297 := n1_
            have HO300 := n2_
            have HO305 := n3_
            have HO309 := n4_
            have HO313 := n5_
            have HO319 := n6_
            have BK286 := n7_
            have BK287 := n8_
            have BK306 := n9_
            have BK310 := n10_
            have HB := n11_
            clear n0_ n1_ n2_ n3_ n4_ n5_ n6_ n7_ n8_ n9_ n10_ n11_
            (try clear hb)
            (try clear hb2)
            (try clear hk)
            (try clear hi)
            refine hK.out _ _ ⟨(blk_cell BK306.out 0).trans rfl, (blk_cell BK306.out 1).trans rfl, (blk_cell BK306.out 2).trans rfl, (blk_cell BK286.out 0).trans rfl, (blk_cell BK286.out 1).trans rfl, (blk_cell BK286.out 2).trans rfl⟩ (fun hHeld => ?_)
            clear hK K
            refine norm_ (a' := ?_) ?_ ?_
            rotate_left
            · show Act.put _ (some 51) _ = _
              simp only [Act.put, List.setIfInBounds_toArray, List.set_cons_zero, List.set_cons_succ, i64_w, i32_w]
              rfl
            refine pure_ (i := 4) (N := some 52) (v := ?_) (a' := ?_) #[true, true, true, true, true] rfl rfl (by kernel_rfl) (fun _ _ _ h => h) (Or.inl ⟨by rfl, ?_⟩) ?_ ?_
            rotate_left
            · intro w'
              go_simp
              with_reducible rfl
            rotate_left
            · simp only [Act.put, List.setIfInBounds_toArray, List.set_cons_zero, List.set_cons_succ, i64_w, i32_w]
              rfl
            refine done_ (by kernel_rfl) ?_
            try go_wp2
            have n0_ := Aside0.mk (Kd.R_drew HO294.out)
            have n1_ := Aside0.mk (Kd.R_drew HO297.out)
            have n2_ := Aside0.mk (Kd.R_drew HO300.out)
            have n3_ := Aside0.mk (Kd.R_drew HO305.out)
            have n4_ := Aside0.mk (Kd.R_drew HO309.out)
            have n5_ := Aside0.mk (Kd.R_drew HO313.out)
            have n6_ := Aside0.mk (Kd.R_drew HO319.out)
            have n7_ := Aside0.mk (blk_drew BK286.out)
            have n8_ := Aside0.mk (blk_drew BK287.out)
            have n9_ := Aside0.mk (blk_drew BK306.out)
            have n10_ := Aside0.mk (blk_drew BK310.out)
            have n11_ := Aside0.mk (below_drew1 HB.out)
            clear HO294
            clear HO297
            clear HO300
            clear HO305
            clear HO309
            clear HO313
            clear HO319
            clear BK286
            clear BK287
            clear BK306
            clear BK310
            clear HB
            have HO294 := n0_
            have HO297 := n1_
            have HO300 := n2_
            have HO305 := n3_
            have HO309 := n4_
            have HO313 := n5_
            have HO319 := n6_
            have BK286 := n7_
            have BK287 := n8_
            have BK306 := n9_
            have BK310 := n10_
            have HB := n11_
            clear n0_ n1_ n2_ n3_ n4_ n5_ n6_ n7_ n8_ n9_ n10_ n11_
            refine start_ (n := 5) (S := fun w' => w'.cell? ⟨gb310, 0, none⟩ = some (.slice Ao61 t307.length co61) ∧ w'.cell? ⟨gb287, 0, none⟩ = some (.slice A1_0 l1_0.length c1_0)) (ds := []) #[false, false, false, false, false] (by kernel_rfl) rfl rfl ⟨(blk_cell BK310.out 0).trans rfl, (blk_cell BK287.out 0).trans rfl⟩ (fun hHeld => ?_)
            generalize w73.drew = w74 at HO294 HO297 HO300 HO305 HO309 HO313 HO319 BK286 BK287 BK306 BK310 HB hHeld ⊢
            refine take_ (i := 0) (N := some 53) (v := ?_) (a' := ?_) #[true, false, false, false, false] rfl rfl (by kernel_rfl) (fun _ _ _ h => h) (Or.inl ⟨by rfl, ?_⟩) hHeld ?_ ?_
            rotate_left
            · rintro w' ⟨s0, s1⟩
              go_simp
              with_reducible rfl
            rotate_left
            · simp only [Act.put, List.setIfInBounds_toArray, List.set_cons_zero, List.set_cons_succ, i64_w, i32_w]
              rfl
            refine take_ (i := 1) (N := some 54) (v := ?_) (a' := ?_) #[true, true, false, false, false] rfl rfl (by kernel_rfl) (fun _ _ _ h => h) (Or.inl ⟨by rfl, ?_⟩) hHeld ?_ ?_
            rotate_left
            · rintro w' ⟨s0, s1⟩
              go_simp
              with_reducible rfl
            rotate_left
            · simp only [Act.put, List.setIfInBounds_toArray, List.set_cons_zero, List.set_cons_succ, i64_w, i32_w]
              rfl
            refine one_ (i := 2) (N := some 55) #[true, true, true, false, false] rfl rfl (by kernel_rfl) (by decide) (fun K hK => ?_)
            refine goes_ Try.func39 (by kernel_rfl) rfl #[.agg #[.slice A1_0 l1_0.length c1_0]] (by rfl) rfl rfl (by (try simp only [List.map_toArray, List.map_cons, List.map_nil]); first | done | rfl | (simp only [List.length_drop, List.length_take]; rfl)) ?_
            with_reducible refine (laws_toTable.calls k _ _ l1_0 t321 _ ?side1 ?side2 A32.out).mono ?_
            (case side1 => repeat (first | exact (Kd.C_below HR1_0.out HB.out) | (with_reducible refine Kd.C_alloc ?_ _) | (with_reducible refine Kd.C_drewN ?_ _) | (with_reducible refine Kd.C_drew ?_)))
            (case side2 => exact HC1_0.out)
            rintro e w75 ⟨v322, rfl, ho0, hb⟩
            refine ⟨_, rfl, ?_⟩
            have n0_ := Aside0.mk (Kd.R_elder' (by (with_reducible repeat (first | apply Kd.R_alloc | apply Kd.R_drewN | apply Kd.R_drew)); exact HO294.out) (Kd.R_base ho0) hb)
            have n1_ := Aside0.mk (Kd.R_elder' (by (with_reducible repeat (first | apply Kd.R_alloc | apply Kd.R_drewN | apply Kd.R_drew)); exact HO297.out) (Kd.R_base ho0) hb)
            have n2_ := Aside0.mk (Kd.R_elder' (by (with_reducible repeat (first | apply Kd.R_alloc | apply Kd.R_drewN | apply Kd.R_drew)); exact HO300.out) (Kd.R_base ho0) hb)
            have n3_ := Aside0.mk (Kd.R_elder' (by (with_reducible repeat (first | apply Kd.R_alloc | apply Kd.R_drewN | apply Kd.R_drew)); exact HO305.out) (Kd.R_base ho0) hb)
            have n4_ := Aside0.mk (Kd.R_elder' (by (with_reducible repeat (first | apply Kd.R_alloc | apply Kd.R_drewN | apply Kd.R_drew)); exact HO309.out) (Kd.R_base ho0) hb)
            have n5_ := Aside0.mk (Kd.R_elder' (by (with_reducible repeat (first | apply Kd.R_alloc | apply Kd.R_drewN | apply Kd.R_drew)); exact HO313.out) (Kd.R_base ho0) hb)
            have n6_ := Aside0.mk (Kd.R_elder' (by (with_reducible repeat (first | apply Kd.R_alloc | apply Kd.R_drewN | apply Kd.R_drew)); exact HO319.out) (Kd.R_base ho0) hb)
            have n7_ := Aside0.mk (Kd.R_lower (Kd.R_new' (Kd.R_new' (Kd.R_new' (Kd.R_new' (Kd.R_new' (Kd.R_new' (Kd.R_new' ho0 (Kd.R_lt (by (with_reducible repeat (first | apply Kd.R_alloc | apply Kd.R_drewN | apply Kd.R_drew)); exact HO294.out))) (Kd.R_lt (by (with_reducible repeat (first | apply Kd.R_alloc | apply Kd.R_drewN | apply Kd.R_drew)); exact HO297.out))) (Kd.R_lt (by (with_reducible repeat (first | apply Kd.R_alloc | apply Kd.R_drewN | apply Kd.R_drew)); exact HO300.out))) (Kd.R_lt (by (with_reducible repeat (first | apply Kd.R_alloc | apply Kd.R_drewN | apply Kd.R_drew)); exact HO305.out))) (Kd.R_lt (by (with_reducible repeat (first | apply Kd.R_alloc | apply Kd.R_drewN | apply Kd.R_drew)); exact HO309.out))) (Kd.R_lt (by (with_reducible repeat (first | apply Kd.R_alloc | apply Kd.R_drewN | apply Kd.R_drew)); exact HO313.out))) (Kd.R_lt (by (with_reducible repeat (first | apply Kd.R_alloc | apply Kd.R_drewN | apply Kd.R_drew)); exact HO319.out))) (below_size (by repeat (first | (with_reducible first | exact HB.out | apply below_alloc | apply pw_below_drewN | apply below_drew1 | refine below_set ?_ GE286.out | refine below_set ?_ GE287.out | refine below_set ?_ GE306.out | refine below_set ?_ GE310.out) | exact HB.out))))
            have n8_ := Aside0.mk (blk_below (g := gb286) (o := .cells #[.int .i64 a0_0, .int .i64 a0_1, .slice A0_2 l0_2.length c0_2] 26 (0, 0)) (by (with_reducible repeat (first | refine blk_drewN ?_ _ | refine blk_drew ?_ | refine blk_alloc ?_ _)); exact BK286.out) hb)
            have n9_ := Aside0.mk (blk_below (g := gb287) (o := .cells #[.slice A1_0 l1_0.length c1_0] 56 (0, 0)) (by (with_reducible repeat (first | refine blk_drewN ?_ _ | refine blk_drew ?_ | refine blk_alloc ?_ _)); exact BK287.out) hb)
            have n10_ := Aside0.mk (blk_below (g := gb306) (o := .cells #[.int .i64 t301, .int .i64 t302, .slice Ao57 t303.length co57] 31 (0, 0)) (by (with_reducible repeat (first | refine blk_drewN ?_ _ | refine blk_drew ?_ | refine blk_alloc ?_ _)); exact BK306.out) hb)
            have n11_ := Aside0.mk (blk_below (g := gb310) (o := .cells #[.slice Ao61 t307.length co61] 40 (0, 0)) (by (with_reducible repeat (first | refine blk_drewN ?_ _ | refine blk_drew ?_ | refine blk_alloc ?_ _)); exact BK310.out) hb)
            have n12_ := Aside0.mk (below_step (by repeat (first | (with_reducible first | exact HB.out | apply below_alloc | apply pw_below_drewN | apply below_drew1 | refine below_set ?_ GE286.out | refine below_set ?_ GE287.out | refine below_set ?_ GE306.out | refine below_set ?_ GE310.out) | exact HB.out)) hb)
            clear HO294
            clear HO297
            clear HO300
            clear HO305
            clear HO309
            clear HO313
            clear HO319
            clear BK286
            clear BK287
            clear BK306
            clear BK310
            clear HB
            have HO294 := n0_
            have HO297 := n1_
            have HO300 := n2_
            have HO305 := n3_
            have HO309 := n4_
            have HO313 := n5_
            have HO319 := n6_
            have HO323 := n7_
            have BK286 := n8_
            have BK287 := n9_
            have BK306 := n10_
            have BK310 := n11_
            have HB := n12_
            clear n0_ n1_ n2_ n3_ n4_ n5_ n6_ n7_ n8_ n9_ n10_ n11_ n12_
            (try clear hb)
            (try clear hb2)
            (try clear hk)
            (try clear hi)
            (try clear ho0)
            obtain ⟨Ao76, co76, eo76⟩ := Kd.R_slice HO323.out
            (first | subst eo76 | (injection eo76 with f1_ f2_ f3_; have f4_ := f1_.symm; have f5_ := f3_.symm; clear f1_ f2_ f3_; subst f4_; subst f5_))
            refine hK.out _ _ ⟨(blk_cell BK310.out 0).trans rfl, (blk_cell BK287.out 0).trans rfl⟩ (fun hHeld => ?_)
            clear hK K
            refine norm_ (a' := ?_) ?_ ?_
            rotate_left
            · show Act.put _ (some 55) _ = _
              simp only [Act.put, List.setIfInBounds_toArray, List.set_cons_zero, List.set_cons_succ, i64_w, i32_w]
              rfl
            refine one_ (i := 3) (N := some 56) #[true, true, true, true, false] rfl rfl (by kernel_rfl) (by decide) (fun K hK => ?_)
            refine goes_ Try.func40 (by kernel_rfl) rfl #[.agg #[.slice Ao61 t307.length co61], .agg #[.slice Ao76 t321.length co76]] (by rfl) rfl rfl (by (try simp only [List.map_toArray, List.map_cons, List.map_nil]); first | done | rfl | (simp only [List.length_drop, List.length_take]; rfl)) ?_
            with_reducible refine (laws_eqTable.calls k _ _ t307 _ _ t321 true _ ?side1 ?side2 ?side3 ?side4 A33.out).mono ?_
            (case side1 => repeat (first | exact (Kd.R_reads' HO309.out).2.2 | (with_reducible refine Kd.C_alloc ?_ _) | (with_reducible refine Kd.C_drewN ?_ _) | (with_reducible refine Kd.C_drew ?_)))
            (case side2 => exact (Kd.R_reads' HO309.out).2.1)
            (case side3 => repeat (first | exact (Kd.R_reads' HO323.out).2.2 | (with_reducible refine Kd.C_alloc ?_ _) | (with_reducible refine Kd.C_drewN ?_ _) | (with_reducible refine Kd.C_drew ?_)))
            (case side4 => exact (Kd.R_reads' HO323.out).2.1)
            rintro e w77 ⟨rfl, hb⟩
            refine ⟨_, rfl, ?_⟩
            have n0_ := Aside0.mk (Kd.R_below (by (with_reducible repeat (first | apply Kd.R_alloc | apply Kd.R_drewN | apply Kd.R_drew)); exact HO294.out) hb)
            have n1_ := Aside0.mk (Kd.R_below (by (with_reducible repeat (first | apply Kd.R_alloc | apply Kd.R_drewN | apply Kd.R_drew)); exact HO297.out) hb)
            have n2_ := Aside0.mk (Kd.R_below (by (with_reducible repeat (first | apply Kd.R_alloc | apply Kd.R_drewN | apply Kd.R_drew)); exact HO300.out) hb)
            have n3_ := Aside0.mk (Kd.R_below (by (with_reducible repeat (first | apply Kd.R_alloc | apply Kd.R_drewN | apply Kd.R_drew)); exact HO305.out) hb)
            have n4_ := Aside0.mk (Kd.R_below (by (with_reducible repeat (first | apply Kd.R_alloc | apply Kd.R_drewN | apply Kd.R_drew)); exact HO309.out) hb)
            have n5_ := Aside0.mk (Kd.R_below (by (with_reducible repeat (first | apply Kd.R_alloc | apply Kd.R_drewN | apply Kd.R_drew)); exact HO313.out) hb)
            have n6_ := Aside0.mk (Kd.R_below (by (with_reducible repeat (first | apply Kd.R_alloc | apply Kd.R_drewN | apply Kd.R_drew)); exact HO319.out) hb)
            have n7_ := Aside0.mk (Kd.R_below (by (with_reducible repeat (first | apply Kd.R_alloc | apply Kd.R_drewN | apply Kd.R_drew)); exact HO323.out) hb)
            have n8_ := Aside0.mk (blk_below (g := gb286) (o := .cells #[.int .i64 a0_0, .int .i64 a0_1, .slice A0_2 l0_2.length c0_2] 26 (0, 0)) (by (with_reducible repeat (first | refine blk_drewN ?_ _ | refine blk_drew ?_ | refine blk_alloc ?_ _)); exact BK286.out) hb)
            have n9_ := Aside0.mk (blk_below (g := gb287) (o := .cells #[.slice A1_0 l1_0.length c1_0] 56 (0, 0)) (by (with_reducible repeat (first | refine blk_drewN ?_ _ | refine blk_drew ?_ | refine blk_alloc ?_ _)); exact BK287.out) hb)
            have n10_ := Aside0.mk (blk_below (g := gb306) (o := .cells #[.int .i64 t301, .int .i64 t302, .slice Ao57 t303.length co57] 31 (0, 0)) (by (with_reducible repeat (first | refine blk_drewN ?_ _ | refine blk_drew ?_ | refine blk_alloc ?_ _)); exact BK306.out) hb)
            have n11_ := Aside0.mk (blk_below (g := gb310) (o := .cells #[.slice Ao61 t307.length co61] 40 (0, 0)) (by (with_reducible repeat (first | refine blk_drewN ?_ _ | refine blk_drew ?_ | refine blk_alloc ?_ _)); exact BK310.out) hb)
            have n12_ := Aside0.mk (below_step (by repeat (first | (with_reducible first | exact HB.out | apply below_alloc | apply pw_below_drewN | apply below_drew1 | refine below_set ?_ GE286.out | refine below_set ?_ GE287.out | refine below_set ?_ GE306.out | refine below_set ?_ GE310.out) | exact HB.out)) hb)
            clear HO294
            clear HO297
            clear HO300
            clear HO305
            clear HO309
            clear HO313
            clear HO319
            clear HO323
            clear BK286
            clear BK287
            clear BK306
            clear BK310
            clear HB
            have HO294 := n0_
            have HO297 := n1_
            have HO300 := n2_
            have HO305 := n3_
            have HO309 := n4_
            have HO313 := n5_
            have HO319 := n6_
            have HO323 := n7_
            have BK286 := n8_
            have BK287 := n9_
            have BK306 := n10_
            have BK310 := n11_
            have HB := n12_
            clear n0_ n1_ n2_ n3_ n4_ n5_ n6_ n7_ n8_ n9_ n10_ n11_ n12_
            (try clear hb)
            (try clear hb2)
            (try clear hk)
            (try clear hi)
            refine hK.out _ _ ⟨(blk_cell BK310.out 0).trans rfl, (blk_cell BK287.out 0).trans rfl⟩ (fun hHeld => ?_)
            clear hK K
            refine norm_ (a' := ?_) ?_ ?_
            rotate_left
            · show Act.put _ (some 56) _ = _
              simp only [Act.put, List.setIfInBounds_toArray, List.set_cons_zero, List.set_cons_succ, i64_w, i32_w]
              rfl
            refine pure_ (i := 4) (N := some 57) (v := ?_) (a' := ?_) #[true, true, true, true, true] rfl rfl (by kernel_rfl) (fun _ _ _ h => h) (Or.inl ⟨by rfl, ?_⟩) ?_ ?_
            rotate_left
            · intro w'
              go_simp
              with_reducible rfl
            rotate_left
            · simp only [Act.put, List.setIfInBounds_toArray, List.set_cons_zero, List.set_cons_succ, i64_w, i32_w]
              rfl
            refine done_ (by kernel_rfl) ?_
            have hcz78_0 : w77.cell? ⟨gb306, 0, none⟩ = some (.int .i64 t301) := (blk_cell BK306.out 0).trans rfl
            have hcz78_1 : w77.cell? ⟨gb306, 1, none⟩ = some (.int .i64 t302) := (blk_cell BK306.out 1).trans rfl
            have hcz78_2 : w77.cell? ⟨gb306, 2, none⟩ = some (.slice Ao57 t303.length co57) := (blk_cell BK306.out 2).trans rfl
            have hfz78_0 := blk_frozen BK306.out 0
            have hfz78_1 := blk_frozen BK306.out 1
            have hfz78_2 := blk_frozen BK306.out 2
            go_upto_region 21 with (first | ((with_reducible refine gate_callee (f := 28) rfl ?_); refine goesL_ (some 60) rfl rfl Try.func28 (by kernel_rfl) rfl #[.agg #[.int .i64 t301, .int .i64 t302, .slice Ao57 t303.length co57], .int .i64 1] rfl (by (try simp only [List.map_toArray, List.map_cons, List.map_nil]); first | done | rfl | (simp only [List.length_drop, List.length_take]; rfl)) ?_; (with_reducible refine (laws_markMesh.calls k t301 t302 (fun k_ => some k_ = (.slice Ao57 t303.length co57 : Value).ownBlock) (.slice Ao57 t303.length co57) t303 1 t325 t326 w _ ?side1 ?side2 A35.out).mono ?_); (case side1 => repeat (first | (with_reducible first | exact HB.out | apply below_alloc | apply pw_below_drewN | apply below_drew1 | refine below_set ?_ GE286.out | refine below_set ?_ GE287.out | refine below_set ?_ GE306.out | refine below_set ?_ GE310.out) | exact HB.out)); (case side2 => exact Kd.R_tight rfl HO305.out); rintro e w79 ⟨rfl, hy0, hb, hkp⟩; refine ⟨_, rfl, ?_⟩; have n0_ := Aside0.mk (blk_kept (by (with_reducible repeat (first | refine blk_drewN ?_ _ | refine blk_drew ?_ | refine blk_alloc ?_ _)); exact BK286.out) hkp (fun hs_ => (fun e_ => (Kd.R_ne HO305.out BK286.out (by decide)) e_) hs_)); have n1_ := Aside0.mk (blk_kept (by (with_reducible repeat (first | refine blk_drewN ?_ _ | refine blk_drew ?_ | refine blk_alloc ?_ _)); exact BK287.out) hkp (fun hs_ => (fun e_ => (Kd.R_ne HO305.out BK287.out (by decide)) e_) hs_)); have n2_ := Aside0.mk (Kd.R_mono (ok' := fun k_ => some k_ ≠ (.slice Ao49 t295.length co49 : Value).ownBlock ∧ some k_ ≠ (.slice Ao69 t298.length co69 : Value).ownBlock ∧ some k_ ≠ (.slice Ao57 t303.length co57 : Value).ownBlock ∧ some k_ ≠ (.slice Ao61 t307.length co61 : Value).ownBlock ∧ some k_ ≠ (.slice Ao68 t311.length co68 : Value).ownBlock ∧ some k_ ≠ (.slice Ao72 t317.length co72 : Value).ownBlock ∧ some k_ ≠ (.slice Ao76 t321.length co76 : Value).ownBlock) (Kd.R_keptB (HO294.out) hkp (fun k_ hk_ hs_ => by first | exact (hk_.1.1.1.1.2) hs_ | (simp_all; done) | grind)) (fun k_ hk_ => by first | exact ⟨hk_.1.1.1.1.1.1.1.2, hk_.1.1.1.1.1.1.2, hk_.1.1.1.1.1.2, hk_.1.1.1.1.2, hk_.1.1.1.2, hk_.1.1.2, hk_.1.2⟩ | (simp_all; done) | grind)); have n3_ := Aside0.mk (Kd.R_mono (ok' := fun k_ => some k_ ≠ (.slice Ao48 t292.length co48 : Value).ownBlock ∧ some k_ ≠ (.slice Ao69 t298.length co69 : Value).ownBlock ∧ some k_ ≠ (.slice Ao57 t303.length co57 : Value).ownBlock ∧ some k_ ≠ (.slice Ao61 t307.length co61 : Value).ownBlock ∧ some k_ ≠ (.slice Ao68 t311.length co68 : Value).ownBlock ∧ some k_ ≠ (.slice Ao72 t317.length co72 : Value).ownBlock ∧ some k_ ≠ (.slice Ao76 t321.length co76 : Value).ownBlock) (Kd.R_keptB (HO297.out) hkp (fun k_ hk_ hs_ => by first | exact (hk_.1.1.1.1.2) hs_ | (simp_all; done) | grind)) (fun k_ hk_ => by first | exact ⟨hk_.1.1.1.1.1.1.1.2, hk_.1.1.1.1.1.1.2, hk_.1.1.1.1.1.2, hk_.1.1.1.1.2, hk_.1.1.1.2, hk_.1.1.2, hk_.1.2⟩ | (simp_all; done) | grind)); have n4_ := Aside0.mk (Kd.R_mono (ok' := fun k_ => some k_ ≠ (.slice Ao48 t292.length co48 : Value).ownBlock ∧ some k_ ≠ (.slice Ao49 t295.length co49 : Value).ownBlock ∧ some k_ ≠ (.slice Ao57 t303.length co57 : Value).ownBlock ∧ some k_ ≠ (.slice Ao61 t307.length co61 : Value).ownBlock ∧ some k_ ≠ (.slice Ao68 t311.length co68 : Value).ownBlock ∧ some k_ ≠ (.slice Ao72 t317.length co72 : Value).ownBlock ∧ some k_ ≠ (.slice Ao76 t321.length co76 : Value).ownBlock) (Kd.R_keptB (HO300.out) hkp (fun k_ hk_ hs_ => by first | exact (hk_.1.1.1.1.2) hs_ | (simp_all; done) | grind)) (fun k_ hk_ => by first | exact ⟨hk_.1.1.1.1.1.1.1.2, hk_.1.1.1.1.1.1.2, hk_.1.1.1.1.1.2, hk_.1.1.1.1.2, hk_.1.1.1.2, hk_.1.1.2, hk_.1.2⟩ | (simp_all; done) | grind)); have n5_ := Aside0.mk (Kd.R_reok rfl hy0 (fun k_ e_ => HO305.out.1 k_ e_)); have n6_ := Aside0.mk (blk_kept (by (with_reducible repeat (first | refine blk_drewN ?_ _ | refine blk_drew ?_ | refine blk_alloc ?_ _)); exact BK306.out) hkp (fun hs_ => (fun e_ => (Kd.R_ne HO305.out BK306.out (by decide)) e_) hs_)); have n7_ := Aside0.mk (Kd.R_mono (ok' := fun k_ => some k_ ≠ (.slice Ao48 t292.length co48 : Value).ownBlock ∧ some k_ ≠ (.slice Ao49 t295.length co49 : Value).ownBlock ∧ some k_ ≠ (.slice Ao69 t298.length co69 : Value).ownBlock ∧ some k_ ≠ (.slice Ao57 t303.length co57 : Value).ownBlock ∧ some k_ ≠ (.slice Ao68 t311.length co68 : Value).ownBlock ∧ some k_ ≠ (.slice Ao72 t317.length co72 : Value).ownBlock ∧ some k_ ≠ (.slice Ao76 t321.length co76 : Value).ownBlock) (Kd.R_keptB (HO309.out) hkp (fun k_ hk_ hs_ => by first | exact (hk_.1.1.1.2) hs_ | (simp_all; done) | grind)) (fun k_ hk_ => by first | exact ⟨hk_.1.1.1.1.1.1.1.2, hk_.1.1.1.1.1.1.2, hk_.1.1.1.1.1.2, hk_.1.1.1.1.2, hk_.1.1.1.2, hk_.1.1.2, hk_.1.2⟩ | (simp_all; done) | grind)); have n8_ := Aside0.mk (blk_kept (by (with_reducible repeat (first | refine blk_drewN ?_ _ | refine blk_drew ?_ | refine blk_alloc ?_ _)); exact BK310.out) hkp (fun hs_ => (fun e_ => (Kd.R_ne HO305.out BK310.out (by decide)) e_) hs_)); have n9_ := Aside0.mk (Kd.R_mono (ok' := fun k_ => some k_ ≠ (.slice Ao48 t292.length co48 : Value).ownBlock ∧ some k_ ≠ (.slice Ao49 t295.length co49 : Value).ownBlock ∧ some k_ ≠ (.slice Ao69 t298.length co69 : Value).ownBlock ∧ some k_ ≠ (.slice Ao57 t303.length co57 : Value).ownBlock ∧ some k_ ≠ (.slice Ao61 t307.length co61 : Value).ownBlock ∧ some k_ ≠ (.slice Ao72 t317.length co72 : Value).ownBlock ∧ some k_ ≠ (.slice Ao76 t321.length co76 : Value).ownBlock) (Kd.R_keptB (HO313.out) hkp (fun k_ hk_ hs_ => by first | exact (hk_.1.1.1.2) hs_ | (simp_all; done) | grind)) (fun k_ hk_ => by first | exact ⟨hk_.1.1.1.1.1.1.1.2, hk_.1.1.1.1.1.1.2, hk_.1.1.1.1.1.2, hk_.1.1.1.1.2, hk_.1.1.1.2, hk_.1.1.2, hk_.1.2⟩ | (simp_all; done) | grind)); have n10_ := Aside0.mk (Kd.R_mono (ok' := fun k_ => some k_ ≠ (.slice Ao48 t292.length co48 : Value).ownBlock ∧ some k_ ≠ (.slice Ao49 t295.length co49 : Value).ownBlock ∧ some k_ ≠ (.slice Ao69 t298.length co69 : Value).ownBlock ∧ some k_ ≠ (.slice Ao57 t303.length co57 : Value).ownBlock ∧ some k_ ≠ (.slice Ao61 t307.length co61 : Value).ownBlock ∧ some k_ ≠ (.slice Ao68 t311.length co68 : Value).ownBlock ∧ some k_ ≠ (.slice Ao76 t321.length co76 : Value).ownBlock) (Kd.R_keptB (HO319.out) hkp (fun k_ hk_ hs_ => by first | exact (hk_.1.1.1.2) hs_ | (simp_all; done) | grind)) (fun k_ hk_ => by first | exact ⟨hk_.1.1.1.1.1.1.1.2, hk_.1.1.1.1.1.1.2, hk_.1.1.1.1.1.2, hk_.1.1.1.1.2, hk_.1.1.1.2, hk_.1.1.2, hk_.1.2⟩ | (simp_all; done) | grind)); have n11_ := Aside0.mk (Kd.R_mono (ok' := fun k_ => some k_ ≠ (.slice Ao48 t292.length co48 : Value).ownBlock ∧ some k_ ≠ (.slice Ao49 t295.length co49 : Value).ownBlock ∧ some k_ ≠ (.slice Ao69 t298.length co69 : Value).ownBlock ∧ some k_ ≠ (.slice Ao57 t303.length co57 : Value).ownBlock ∧ some k_ ≠ (.slice Ao61 t307.length co61 : Value).ownBlock ∧ some k_ ≠ (.slice Ao68 t311.length co68 : Value).ownBlock ∧ some k_ ≠ (.slice Ao72 t317.length co72 : Value).ownBlock) (Kd.R_keptB (HO323.out) hkp (fun k_ hk_ hs_ => by first | exact (hk_.1.1.1.2) hs_ | (simp_all; done) | grind)) (fun k_ hk_ => by first | exact ⟨hk_.1.1.1.1.1.1.1.2, hk_.1.1.1.1.1.1.2, hk_.1.1.1.1.1.2, hk_.1.1.1.1.2, hk_.1.1.1.2, hk_.1.1.2, hk_.1.2⟩ | (simp_all; done) | grind)); have n12_ := Aside0.mk (hb); clear BK286; clear BK287; clear HO294; clear HO297; clear HO300; clear HO305; clear BK306; clear HO309; clear BK310; clear HO313; clear HO319; clear HO323; clear HB; have BK286 := n0_; have BK287 := n1_; have HO294 := n2_; have HO297 := n3_; have HO300 := n4_; have HO305 := n5_; have BK306 := n6_; have HO309 := n7_; have BK310 := n8_; have HO313 := n9_; have HO319 := n10_; have HO323 := n11_; have HB := n12_; clear n0_ n1_ n2_ n3_ n4_ n5_ n6_ n7_ n8_ n9_ n10_ n11_ n12_; (try clear hb); (try clear hkp); (try clear hy0); have hcz80_0 : w79.cell? ⟨gb310, 0, none⟩ = some (.slice Ao61 t307.length co61) := (blk_cell BK310.out 0).trans rfl; have hfz80_0 := blk_frozen BK310.out 0) | ((with_reducible refine gate_callee (f := 41) rfl ?_); refine goesL_ (some 63) rfl rfl Try.func41 (by kernel_rfl) rfl #[.agg #[.slice Ao61 t307.length co61], .int .i64 t325] rfl (by (try simp only [List.map_toArray, List.map_cons, List.map_nil]); first | done | rfl | (simp only [List.length_drop, List.length_take]; rfl)) ?_; (with_reducible refine (laws_markTable.calls k (fun k_ => some k_ = (.slice Ao61 t307.length co61 : Value).ownBlock) (.slice Ao61 t307.length co61) t307 t325 t327 t328 w _ ?side1 ?side2 A36.out).mono ?_); (case side1 => repeat (first | (with_reducible first | exact HB.out | apply below_alloc | apply pw_below_drewN | apply below_drew1 | refine below_set ?_ GE286.out | refine below_set ?_ GE287.out | refine below_set ?_ GE306.out | refine below_set ?_ GE310.out) | exact HB.out)); (case side2 => exact Kd.R_tight rfl HO309.out); rintro e w81 ⟨rfl, hy0, hb, hkp⟩; refine ⟨_, rfl, ?_⟩; have n0_ := Aside0.mk (blk_kept (by (with_reducible repeat (first | refine blk_drewN ?_ _ | refine blk_drew ?_ | refine blk_alloc ?_ _)); exact BK286.out) hkp (fun hs_ => (fun e_ => (Kd.R_ne HO309.out BK286.out (by decide)) e_) hs_)); have n1_ := Aside0.mk (blk_kept (by (with_reducible repeat (first | refine blk_drewN ?_ _ | refine blk_drew ?_ | refine blk_alloc ?_ _)); exact BK287.out) hkp (fun hs_ => (fun e_ => (Kd.R_ne HO309.out BK287.out (by decide)) e_) hs_)); have n2_ := Aside0.mk (Kd.R_mono (ok' := fun k_ => some k_ ≠ (.slice Ao49 t295.length co49 : Value).ownBlock ∧ some k_ ≠ (.slice Ao69 t298.length co69 : Value).ownBlock ∧ some k_ ≠ (.slice Ao57 t303.length co57 : Value).ownBlock ∧ some k_ ≠ (.slice Ao61 t307.length co61 : Value).ownBlock ∧ some k_ ≠ (.slice Ao68 t311.length co68 : Value).ownBlock ∧ some k_ ≠ (.slice Ao72 t317.length co72 : Value).ownBlock ∧ some k_ ≠ (.slice Ao76 t321.length co76 : Value).ownBlock) (Kd.R_keptB (HO294.out) hkp (fun k_ hk_ hs_ => by first | exact (hk_.2.2.2.1) hs_ | (simp_all; done) | grind)) (fun k_ hk_ => by first | exact ⟨hk_.1.1, hk_.1.2.1, hk_.1.2.2.1, hk_.1.2.2.2.1, hk_.1.2.2.2.2.1, hk_.1.2.2.2.2.2.1, hk_.1.2.2.2.2.2.2⟩ | (simp_all; done) | grind)); have n3_ := Aside0.mk (Kd.R_mono (ok' := fun k_ => some k_ ≠ (.slice Ao48 t292.length co48 : Value).ownBlock ∧ some k_ ≠ (.slice Ao69 t298.length co69 : Value).ownBlock ∧ some k_ ≠ (.slice Ao57 t303.length co57 : Value).ownBlock ∧ some k_ ≠ (.slice Ao61 t307.length co61 : Value).ownBlock ∧ some k_ ≠ (.slice Ao68 t311.length co68 : Value).ownBlock ∧ some k_ ≠ (.slice Ao72 t317.length co72 : Value).ownBlock ∧ some k_ ≠ (.slice Ao76 t321.length co76 : Value).ownBlock) (Kd.R_keptB (HO297.out) hkp (fun k_ hk_ hs_ => by first | exact (hk_.2.2.2.1) hs_ | (simp_all; done) | grind)) (fun k_ hk_ => by first | exact ⟨hk_.1.1, hk_.1.2.1, hk_.1.2.2.1, hk_.1.2.2.2.1, hk_.1.2.2.2.2.1, hk_.1.2.2.2.2.2.1, hk_.1.2.2.2.2.2.2⟩ | (simp_all; done) | grind)); have n4_ := Aside0.mk (Kd.R_mono (ok' := fun k_ => some k_ ≠ (.slice Ao48 t292.length co48 : Value).ownBlock ∧ some k_ ≠ (.slice Ao49 t295.length co49 : Value).ownBlock ∧ some k_ ≠ (.slice Ao57 t303.length co57 : Value).ownBlock ∧ some k_ ≠ (.slice Ao61 t307.length co61 : Value).ownBlock ∧ some k_ ≠ (.slice Ao68 t311.length co68 : Value).ownBlock ∧ some k_ ≠ (.slice Ao72 t317.length co72 : Value).ownBlock ∧ some k_ ≠ (.slice Ao76 t321.length co76 : Value).ownBlock) (Kd.R_keptB (HO300.out) hkp (fun k_ hk_ hs_ => by first | exact (hk_.2.2.2.1) hs_ | (simp_all; done) | grind)) (fun k_ hk_ => by first | exact ⟨hk_.1.1, hk_.1.2.1, hk_.1.2.2.1, hk_.1.2.2.2.1, hk_.1.2.2.2.2.1, hk_.1.2.2.2.2.2.1, hk_.1.2.2.2.2.2.2⟩ | (simp_all; done) | grind)); have n5_ := Aside0.mk (Kd.R_mono (ok' := fun k_ => some k_ ≠ (.slice Ao48 t292.length co48 : Value).ownBlock ∧ some k_ ≠ (.slice Ao49 t295.length co49 : Value).ownBlock ∧ some k_ ≠ (.slice Ao69 t298.length co69 : Value).ownBlock ∧ some k_ ≠ (.slice Ao61 t307.length co61 : Value).ownBlock ∧ some k_ ≠ (.slice Ao68 t311.length co68 : Value).ownBlock ∧ some k_ ≠ (.slice Ao72 t317.length co72 : Value).ownBlock ∧ some k_ ≠ (.slice Ao76 t321.length co76 : Value).ownBlock) (Kd.R_keptB (HO305.out) hkp (fun k_ hk_ hs_ => by first | exact (hk_.1.1.1.2) hs_ | (simp_all; done) | grind)) (fun k_ hk_ => by first | exact ⟨hk_.1.1.1.1.1.1.1.2, hk_.1.1.1.1.1.1.2, hk_.1.1.1.1.1.2, hk_.1.1.1.1.2, hk_.1.1.1.2, hk_.1.1.2, hk_.1.2⟩ | (simp_all; done) | grind)); have n6_ := Aside0.mk (blk_kept (by (with_reducible repeat (first | refine blk_drewN ?_ _ | refine blk_drew ?_ | refine blk_alloc ?_ _)); exact BK306.out) hkp (fun hs_ => (fun e_ => (Kd.R_ne HO309.out BK306.out (by decide)) e_) hs_)); have n7_ := Aside0.mk (Kd.R_reok rfl hy0 (fun k_ e_ => HO309.out.1 k_ e_)); have n8_ := Aside0.mk (blk_kept (by (with_reducible repeat (first | refine blk_drewN ?_ _ | refine blk_drew ?_ | refine blk_alloc ?_ _)); exact BK310.out) hkp (fun hs_ => (fun e_ => (Kd.R_ne HO309.out BK310.out (by decide)) e_) hs_)); have n9_ := Aside0.mk (Kd.R_mono (ok' := fun k_ => some k_ ≠ (.slice Ao48 t292.length co48 : Value).ownBlock ∧ some k_ ≠ (.slice Ao49 t295.length co49 : Value).ownBlock ∧ some k_ ≠ (.slice Ao69 t298.length co69 : Value).ownBlock ∧ some k_ ≠ (.slice Ao57 t303.length co57 : Value).ownBlock ∧ some k_ ≠ (.slice Ao61 t307.length co61 : Value).ownBlock ∧ some k_ ≠ (.slice Ao72 t317.length co72 : Value).ownBlock ∧ some k_ ≠ (.slice Ao76 t321.length co76 : Value).ownBlock) (Kd.R_keptB (HO313.out) hkp (fun k_ hk_ hs_ => by first | exact (hk_.2.2.2.2.1) hs_ | (simp_all; done) | grind)) (fun k_ hk_ => by first | exact ⟨hk_.1.1, hk_.1.2.1, hk_.1.2.2.1, hk_.1.2.2.2.1, hk_.1.2.2.2.2.1, hk_.1.2.2.2.2.2.1, hk_.1.2.2.2.2.2.2⟩ | (simp_all; done) | grind)); have n10_ := Aside0.mk (Kd.R_mono (ok' := fun k_ => some k_ ≠ (.slice Ao48 t292.length co48 : Value).ownBlock ∧ some k_ ≠ (.slice Ao49 t295.length co49 : Value).ownBlock ∧ some k_ ≠ (.slice Ao69 t298.length co69 : Value).ownBlock ∧ some k_ ≠ (.slice Ao57 t303.length co57 : Value).ownBlock ∧ some k_ ≠ (.slice Ao61 t307.length co61 : Value).ownBlock ∧ some k_ ≠ (.slice Ao68 t311.length co68 : Value).ownBlock ∧ some k_ ≠ (.slice Ao76 t321.length co76 : Value).ownBlock) (Kd.R_keptB (HO319.out) hkp (fun k_ hk_ hs_ => by first | exact (hk_.2.2.2.2.1) hs_ | (simp_all; done) | grind)) (fun k_ hk_ => by first | exact ⟨hk_.1.1, hk_.1.2.1, hk_.1.2.2.1, hk_.1.2.2.2.1, hk_.1.2.2.2.2.1, hk_.1.2.2.2.2.2.1, hk_.1.2.2.2.2.2.2⟩ | (simp_all; done) | grind)); have n11_ := Aside0.mk (Kd.R_mono (ok' := fun k_ => some k_ ≠ (.slice Ao48 t292.length co48 : Value).ownBlock ∧ some k_ ≠ (.slice Ao49 t295.length co49 : Value).ownBlock ∧ some k_ ≠ (.slice Ao69 t298.length co69 : Value).ownBlock ∧ some k_ ≠ (.slice Ao57 t303.length co57 : Value).ownBlock ∧ some k_ ≠ (.slice Ao61 t307.length co61 : Value).ownBlock ∧ some k_ ≠ (.slice Ao68 t311.length co68 : Value).ownBlock ∧ some k_ ≠ (.slice Ao72 t317.length co72 : Value).ownBlock) (Kd.R_keptB (HO323.out) hkp (fun k_ hk_ hs_ => by first | exact (hk_.2.2.2.2.1) hs_ | (simp_all; done) | grind)) (fun k_ hk_ => by first | exact ⟨hk_.1.1, hk_.1.2.1, hk_.1.2.2.1, hk_.1.2.2.2.1, hk_.1.2.2.2.2.1, hk_.1.2.2.2.2.2.1, hk_.1.2.2.2.2.2.2⟩ | (simp_all; done) | grind)); have n12_ := Aside0.mk (hb); clear BK286; clear BK287; clear HO294; clear HO297; clear HO300; clear HO305; clear BK306; clear HO309; clear BK310; clear HO313; clear HO319; clear HO323; clear HB; have BK286 := n0_; have BK287 := n1_; have HO294 := n2_; have HO297 := n3_; have HO300 := n4_; have HO305 := n5_; have BK306 := n6_; have HO309 := n7_; have BK310 := n8_; have HO313 := n9_; have HO319 := n10_; have HO323 := n11_; have HB := n12_; clear n0_ n1_ n2_ n3_ n4_ n5_ n6_ n7_ n8_ n9_ n10_ n11_ n12_; (try clear hb); (try clear hkp); (try clear hy0)))
            (try simp only [Act.put, List.setIfInBounds_toArray, List.set_cons_zero, List.set_cons_succ])
            go_cut [71] (fun v71 wc => ∃ (kq : Nat) (x71_36 : Bool), v71 = .bool x71_36 ∧ Aside0 (laws_FnExactWalkTable.j0 kq a2 a3 t298 t311 x71_36 a0_0 a0_1 l0_2 l1_0 = some r) ∧ Aside0 (kq ≤ k) ∧ Aside0 (Kd.R (Kd.int .i64) 3 wc w.heap.size (fun k_ => some k_ ≠ ((.slice Ao68 t311.length co68) : Value).ownBlock ∧ some k_ ≠ ((.slice Ao57 t303.length co57) : Value).ownBlock ∧ some k_ ≠ ((.slice Ao61 t307.length co61) : Value).ownBlock) (.slice Ao69 t298.length co69) t298) ∧ Aside0 (Kd.R (Kd.int .i64) 3 wc w.heap.size (fun k_ => some k_ ≠ ((.slice Ao69 t298.length co69) : Value).ownBlock ∧ some k_ ≠ ((.slice Ao57 t303.length co57) : Value).ownBlock ∧ some k_ ≠ ((.slice Ao61 t307.length co61) : Value).ownBlock) (.slice Ao68 t311.length co68) t311) ∧ Aside0 (Kd.R (Kd.int .i64) 3 wc w.heap.size (fun k_ => some k_ ≠ ((.slice Ao69 t298.length co69) : Value).ownBlock ∧ some k_ ≠ ((.slice Ao68 t311.length co68) : Value).ownBlock ∧ some k_ ≠ ((.slice Ao61 t307.length co61) : Value).ownBlock) (.slice Ao57 t303.length co57) t326) ∧ Aside0 (Kd.R (Kd.int .i64) 3 wc w.heap.size (fun k_ => some k_ ≠ ((.slice Ao69 t298.length co69) : Value).ownBlock ∧ some k_ ≠ ((.slice Ao68 t311.length co68) : Value).ownBlock ∧ some k_ ≠ ((.slice Ao57 t303.length co57) : Value).ownBlock) (.slice Ao61 t307.length co61) t328) ∧ Aside0 (wc.heap[gb286]? = some (.cells #[.int .i64 a0_0, .int .i64 a0_1, (.slice A0_2 l0_2.length c0_2)] 26 (0, 0))) ∧ Aside0 (wc.heap[gb287]? = some (.cells #[(.slice A1_0 l1_0.length c1_0)] 56 (0, 0))) ∧ Aside0 (wc.heap[gb306]? = some (.cells #[.int .i64 t301, .int .i64 t302, (.slice Ao57 t303.length co57)] 31 (0, 0))) ∧ Aside0 (wc.heap[gb310]? = some (.cells #[(.slice Ao61 t307.length co61)] 40 (0, 0))) ∧ Aside0 (Below w.heap.size w wc))
            case first =>
              have H := HC37.out
              clear HC37
              by_cases c82 : t327 < 0
              · rw [if_pos c82] at H
                have c82b0 : decide (t327 < 0) = true := decide_eq_true c82
                clear c82
                (first | rw [c82b0] | (simp only [i64_w, i32_w]; rw [c82b0]) | skip)
                have H' := Aside0.mk H
                clear H
                go_wp2
                go_meet
                case rel => exact ⟨_, (true), (by first | rfl | (simp; done) | (simp [*]; done)), H', ⟨by first | omega | exact Nat.le_refl _⟩, ⟨by (with_reducible repeat (first | apply Kd.R_alloc | apply Kd.R_drewN | apply Kd.R_drew)); exact Kd.R_mono HO300.out (fun _ hk => ⟨hk.2.2.2.2.1, ⟨hk.2.2.1, hk.2.2.2.1⟩⟩)⟩, ⟨by (with_reducible repeat (first | apply Kd.R_alloc | apply Kd.R_drewN | apply Kd.R_drew)); exact Kd.R_mono HO313.out (fun _ hk => ⟨hk.2.2.1, ⟨hk.2.2.2.1, hk.2.2.2.2.1⟩⟩)⟩, ⟨by (with_reducible repeat (first | apply Kd.R_alloc | apply Kd.R_drewN | apply Kd.R_drew)); exact Kd.R_mono HO305.out (fun _ hk => ⟨hk.2.2.1, ⟨hk.2.2.2.2.1, hk.2.2.2.1⟩⟩)⟩, ⟨by (with_reducible repeat (first | apply Kd.R_alloc | apply Kd.R_drewN | apply Kd.R_drew)); exact Kd.R_mono HO309.out (fun _ hk => ⟨hk.2.2.1, ⟨hk.2.2.2.2.1, hk.2.2.2.1⟩⟩)⟩, ⟨by (with_reducible repeat (first | refine blk_drewN ?_ _ | refine blk_drew ?_ | refine blk_alloc ?_ _)); exact BK286.out⟩, ⟨by (with_reducible repeat (first | refine blk_drewN ?_ _ | refine blk_drew ?_ | refine blk_alloc ?_ _)); exact BK287.out⟩, ⟨by (with_reducible repeat (first | refine blk_drewN ?_ _ | refine blk_drew ?_ | refine blk_alloc ?_ _)); exact BK306.out⟩, ⟨by (with_reducible repeat (first | refine blk_drewN ?_ _ | refine blk_drew ?_ | refine blk_alloc ?_ _)); exact BK310.out⟩, ⟨by repeat (first | (with_reducible first | exact HB.out | apply below_alloc | apply pw_below_drewN | apply below_drew1 | refine below_set ?_ GE286.out | refine below_set ?_ GE287.out | refine below_set ?_ GE306.out | refine below_set ?_ GE310.out) | exact HB.out)⟩⟩
              · rw [if_neg c82] at H
                have c82b0 : decide (t327 < 0) = false := decide_eq_false c82
                clear c82
                (first | rw [c82b0] | (simp only [i64_w, i32_w]; rw [c82b0]) | skip)
                replace H := Option.bind_eq_some_iff.mp H
                obtain ⟨t329, A830, H⟩ := H
                replace H : (laws_FnExactWalkTable.j0 k a2 a3 t298 t311 (!t329) a0_0 a0_1 l0_2 l1_0) = some r := H
                have A83 := Aside0.mk A830
                clear A830
                have H' := Aside0.mk H
                clear H
                go_wp2_with (first | (go_at_call 17; (with_reducible refine (laws_eqIntS.calls k _ _ t311 _ _ t298 t329 _ ?side1 ?side2 ?side3 ?side4 A83.out).mono ?_); (case side1 => repeat (first | exact (Kd.R_reads' HO313.out).2.2 | (with_reducible refine Kd.C_alloc ?_ _) | (with_reducible refine Kd.C_drewN ?_ _) | (with_reducible refine Kd.C_drew ?_))); (case side2 => exact (Kd.R_reads' HO313.out).2.1); (case side3 => repeat (first | exact (Kd.R_reads' HO300.out).2.2 | (with_reducible refine Kd.C_alloc ?_ _) | (with_reducible refine Kd.C_drewN ?_ _) | (with_reducible refine Kd.C_drew ?_))); (case side4 => exact (Kd.R_reads' HO300.out).2.1); rintro e w' ⟨rfl, ⟨nd, rfl⟩⟩))
                go_meet
                case rel => exact ⟨_, (!t329), (by first | rfl | (simp; done) | (simp [*]; done)), H', ⟨by first | omega | exact Nat.le_refl _⟩, ⟨by (with_reducible repeat (first | apply Kd.R_alloc | apply Kd.R_drewN | apply Kd.R_drew)); exact Kd.R_mono HO300.out (fun _ hk => ⟨hk.2.2.2.2.1, ⟨hk.2.2.1, hk.2.2.2.1⟩⟩)⟩, ⟨by (with_reducible repeat (first | apply Kd.R_alloc | apply Kd.R_drewN | apply Kd.R_drew)); exact Kd.R_mono HO313.out (fun _ hk => ⟨hk.2.2.1, ⟨hk.2.2.2.1, hk.2.2.2.2.1⟩⟩)⟩, ⟨by (with_reducible repeat (first | apply Kd.R_alloc | apply Kd.R_drewN | apply Kd.R_drew)); exact Kd.R_mono HO305.out (fun _ hk => ⟨hk.2.2.1, ⟨hk.2.2.2.2.1, hk.2.2.2.1⟩⟩)⟩, ⟨by (with_reducible repeat (first | apply Kd.R_alloc | apply Kd.R_drewN | apply Kd.R_drew)); exact Kd.R_mono HO309.out (fun _ hk => ⟨hk.2.2.1, ⟨hk.2.2.2.2.1, hk.2.2.2.1⟩⟩)⟩, ⟨by (with_reducible repeat (first | refine blk_drewN ?_ _ | refine blk_drew ?_ | refine blk_alloc ?_ _)); exact BK286.out⟩, ⟨by (with_reducible repeat (first | refine blk_drewN ?_ _ | refine blk_drew ?_ | refine blk_alloc ?_ _)); exact BK287.out⟩, ⟨by (with_reducible repeat (first | refine blk_drewN ?_ _ | refine blk_drew ?_ | refine blk_alloc ?_ _)); exact BK306.out⟩, ⟨by (with_reducible repeat (first | refine blk_drewN ?_ _ | refine blk_drew ?_ | refine blk_alloc ?_ _)); exact BK310.out⟩, ⟨by repeat (first | (with_reducible first | exact HB.out | apply below_alloc | apply pw_below_drewN | apply below_drew1 | refine below_set ?_ GE286.out | refine below_set ?_ GE287.out | refine below_set ?_ GE306.out | refine below_set ?_ GE310.out) | exact HB.out)⟩⟩
            case rest =>
              clear HC37
              try clear c1
              try clear c2
              try clear p2
              try clear c3
              try clear c4
              try clear c5
              try clear c6
              try clear c8
              try clear c10
              try clear c11
              try clear c13
              try clear c16
              try clear c17
              try clear c21
              try clear c28
              try clear c34
              try clear c37
              try clear c38
              try clear c39
              try clear c40
              try clear c41
              try clear c54
              try clear c55
              try clear c62
              try clear c63
              try clear c64
              try clear c82
              try clear c82b0
              try clear hcz41_0
              try clear hcz41_1
              try clear hcz41_2
              try clear hcz43_0
              try clear hcz51_0
              try clear hcz51_1
              try clear hcz51_2
              try clear hcz56_0
              try clear hcz56_1
              try clear hcz56_2
              try clear hcz58_0
              try clear hcz65_0
              try clear hcz66_0
              try clear hcz66_1
              try clear hcz66_2
              try clear hcz78_0
              try clear hcz78_1
              try clear hcz78_2
              try clear hcz80_0
              try clear hfz41_0
              try clear hfz41_1
              try clear hfz41_2
              try clear hfz43_0
              try clear hfz51_0
              try clear hfz51_1
              try clear hfz51_2
              try clear hfz56_0
              try clear hfz56_1
              try clear hfz56_2
              try clear hfz58_0
              try clear hfz65_0
              try clear hfz66_0
              try clear hfz66_1
              try clear hfz66_2
              try clear hfz78_0
              try clear hfz78_1
              try clear hfz78_2
              try clear hfz80_0
              obtain ⟨kq, x71_36, rfl, HA, HJ36, HO_10, HO_13, HO_307002, HO_311000, BK286, BK287, BK306, BK310, HB⟩ := hcut
              have hl307002_36 := (Kd.R_reads' HO_307002.out).1
              rw [hl307002_36] at HO_307002
              (try simp only [hl307002_36])
              (try simp only [hl307002_36] at BK286)
              (try simp only [hl307002_36] at BK287)
              (try simp only [hl307002_36] at BK306)
              (try simp only [hl307002_36] at BK310)
              (try simp only [hl307002_36] at HO_10)
              (try simp only [hl307002_36] at HO_13)
              (try simp only [hl307002_36] at HO_311000)
              have hl311000_36 := (Kd.R_reads' HO_311000.out).1
              rw [hl311000_36] at HO_311000
              (try simp only [hl311000_36])
              (try simp only [hl311000_36] at BK286)
              (try simp only [hl311000_36] at BK287)
              (try simp only [hl311000_36] at BK306)
              (try simp only [hl311000_36] at BK310)
              (try simp only [hl311000_36] at HO_10)
              (try simp only [hl311000_36] at HO_13)
              (try simp only [hl311000_36] at HO_307002)
              cases kq with
              | zero => exact absurd HA.out (by simp [laws_FnExactWalkTable.j0])
              | succ kj36 =>
                have H := HA.out
                clear HA
                simp only [laws_FnExactWalkTable.j0] at H
                by_cases c84 : x71_36 = true
                · subst c84
                  have H1 : (some false) = some r := by rw [if_pos rfl] at H; exact H
                  clear H
                  have H := H1
                  clear H1
                  obtain rfl := Option.some.inj H
                  exact absurd HRT.out (by simp)
                · replace c84 := Bool.eq_false_iff.mpr c84
                  subst c84
                  have H1 : ((laws_markIntS.f kj36 t311 1).bind fun bt330 => ((laws_heldIntS.f kj36 bt330.2 1).bind fun t332 => (if t332 < 0 then (some false) else (if t332 = bt330.1 then ((laws_toMesh.f kj36 a0_0 a0_1 l0_2).bind fun bt333 => ((laws_toTable.f kj36 l1_0).bind fun t338 => ((impl_WalkTable.f kj36 bt333.1 bt333.2.1 bt333.2.2 t338 a2 a3).bind fun t341 => ((laws_eqIntS.f kj36 t341 t298).bind fun t344 => (if t344 = true then ((laws_heldIntS.f kj36 bt330.2 1).bind fun t345 => (if t345 < 0 then (some false) else (if t345 = bt330.1 then (some true) else (some false)))) else (some false)))))) else (some false))))) = some r := by rw [if_neg (show ¬ (false = true) by decide)] at H; exact H
                  clear H
                  have H := H1
                  clear H1
                  replace H := Option.bind_eq_some_iff.mp H
                  obtain ⟨⟨t330, t331⟩, A850, H⟩ := H
                  replace H : ((laws_heldIntS.f kj36 t331 1).bind fun t332 => (if t332 < 0 then (some false) else (if t332 = t330 then ((laws_toMesh.f kj36 a0_0 a0_1 l0_2).bind fun bt333 => ((laws_toTable.f kj36 l1_0).bind fun t338 => ((impl_WalkTable.f kj36 bt333.1 bt333.2.1 bt333.2.2 t338 a2 a3).bind fun t341 => ((laws_eqIntS.f kj36 t341 t298).bind fun t344 => (if t344 = true then ((laws_heldIntS.f kj36 t331 1).bind fun t345 => (if t345 < 0 then (some false) else (if t345 = t330 then (some true) else (some false)))) else (some false)))))) else (some false)))) = some r := H
                  have A85 := Aside0.mk A850
                  clear A850
                  replace H := Option.bind_eq_some_iff.mp H
                  obtain ⟨t332, A860, H⟩ := H
                  replace H : (if t332 < 0 then (some false) else (if t332 = t330 then ((laws_toMesh.f kj36 a0_0 a0_1 l0_2).bind fun bt333 => ((laws_toTable.f kj36 l1_0).bind fun t338 => ((impl_WalkTable.f kj36 bt333.1 bt333.2.1 bt333.2.2 t338 a2 a3).bind fun t341 => ((laws_eqIntS.f kj36 t341 t298).bind fun t344 => (if t344 = true then ((laws_heldIntS.f kj36 t331 1).bind fun t345 => (if t345 < 0 then (some false) else (if t345 = t330 then (some true) else (some false)))) else (some false)))))) else (some false))) = some r := H
                  have A86 := Aside0.mk A860
                  clear A860
                  by_cases c87 : t332 < 0
                  · rw [if_pos c87] at H
                    have c87b0 : decide (t332 < 0) = true := decide_eq_true c87
                    clear c87
                    obtain rfl := Option.some.inj H
                    exact absurd HRT.out (by simp)
                  · rw [if_neg c87] at H
                    have c87b0 : decide (t332 < 0) = false := decide_eq_false c87
                    clear c87
                    by_cases c88 : t332 = t330
                    · rw [if_pos c88] at H
                      have c88b0 : (t332 == t330) = true := beq_iff_eq.mpr c88
                      have c88b1 : (t332 != t330) = false := bne_eq_false_iff_eq.mpr c88
                      clear c88
                      replace H := Option.bind_eq_some_iff.mp H
                      obtain ⟨⟨t333, t334, t335⟩, A890, H⟩ := H
                      replace H : ((laws_toTable.f kj36 l1_0).bind fun t338 => ((impl_WalkTable.f kj36 t333 t334 t335 t338 a2 a3).bind fun t341 => ((laws_eqIntS.f kj36 t341 t298).bind fun t344 => (if t344 = true then ((laws_heldIntS.f kj36 t331 1).bind fun t345 => (if t345 < 0 then (some false) else (if t345 = t330 then (some true) else (some false)))) else (some false))))) = some r := H
                      have A89 := Aside0.mk A890
                      clear A890
                      replace H := Option.bind_eq_some_iff.mp H
                      obtain ⟨t338, A900, H⟩ := H
                      replace H : ((impl_WalkTable.f kj36 t333 t334 t335 t338 a2 a3).bind fun t341 => ((laws_eqIntS.f kj36 t341 t298).bind fun t344 => (if t344 = true then ((laws_heldIntS.f kj36 t331 1).bind fun t345 => (if t345 < 0 then (some false) else (if t345 = t330 then (some true) else (some false)))) else (some false)))) = some r := H
                      have A90 := Aside0.mk A900
                      clear A900
                      replace H := Option.bind_eq_some_iff.mp H
                      obtain ⟨t341, A910, H⟩ := H
                      replace H : ((laws_eqIntS.f kj36 t341 t298).bind fun t344 => (if t344 = true then ((laws_heldIntS.f kj36 t331 1).bind fun t345 => (if t345 < 0 then (some false) else (if t345 = t330 then (some true) else (some false)))) else (some false))) = some r := H
                      have A91 := Aside0.mk A910
                      clear A910
                      replace H := Option.bind_eq_some_iff.mp H
                      obtain ⟨t344, A920, H⟩ := H
                      replace H : (if t344 = true then ((laws_heldIntS.f kj36 t331 1).bind fun t345 => (if t345 < 0 then (some false) else (if t345 = t330 then (some true) else (some false)))) else (some false)) = some r := H
                      have A92 := Aside0.mk A920
                      clear A920
                      by_cases c93 : t344 = true
                      · subst c93
                        have H1 : ((laws_heldIntS.f kj36 t331 1).bind fun t345 => (if t345 < 0 then (some false) else (if t345 = t330 then (some true) else (some false)))) = some r := by rw [if_pos rfl] at H; exact H
                        clear H
                        have H := H1
                        clear H1
                        replace H := Option.bind_eq_some_iff.mp H
                        obtain ⟨t345, A940, H⟩ := H
                        replace H : (if t345 < 0 then (some false) else (if t345 = t330 then (some true) else (some false))) = some r := H
                        have A94 := Aside0.mk A940
                        clear A940
                        by_cases c95 : t345 < 0
                        · rw [if_pos c95] at H
                          have c95b0 : decide (t345 < 0) = true := decide_eq_true c95
                          clear c95
                          obtain rfl := Option.some.inj H
                          exact absurd HRT.out (by simp)
                        · rw [if_neg c95] at H
                          have c95b0 : decide (t345 < 0) = false := decide_eq_false c95
                          clear c95
                          by_cases c96 : t345 = t330
                          · rw [if_pos c96] at H
                            have c96b0 : (t345 == t330) = true := beq_iff_eq.mpr c96
                            have c96b1 : (t345 != t330) = false := bne_eq_false_iff_eq.mpr c96
                            clear c96
                            obtain rfl := Option.some.inj H
                            try go_wp2_with (first | ((with_reducible refine gate_callee (f := 29) rfl ?_); refine goesL_ (some 74) rfl rfl Try.func29 (by kernel_rfl) rfl #[.slice Ao68 t311.length co68, .int .i64 1] rfl (by (try simp only [List.map_toArray, List.map_cons, List.map_nil]); first | done | rfl | (simp only [List.length_drop, List.length_take]; rfl)) ?_; (with_reducible refine (laws_markIntS.calls kj36 (fun k_ => some k_ = (.slice Ao68 t311.length co68 : Value).ownBlock) (.slice Ao68 t311.length co68) t311 1 t330 t331 w _ ?side1 ?side2 A85.out).mono ?_); (case side1 => repeat (first | (with_reducible first | exact HB.out | apply below_alloc | apply pw_below_drewN | apply below_drew1 | refine below_set ?_ GE286.out | refine below_set ?_ GE287.out | refine below_set ?_ GE306.out | refine below_set ?_ GE310.out) | exact HB.out)); (case side2 => exact Kd.R_tight rfl HO_13.out); rintro e w97 ⟨rfl, hy0, hb, hkp⟩; refine ⟨_, rfl, ?_⟩; have n0_ := Aside0.mk (Kd.R_mono (ok' := fun k_ => some k_ ≠ (.slice Ao68 t311.length co68 : Value).ownBlock ∧ some k_ ≠ (.slice Ao57 t326.length co57 : Value).ownBlock ∧ some k_ ≠ (.slice Ao61 t328.length co61 : Value).ownBlock) (Kd.R_keptB (HO_10.out) hkp (fun k_ hk_ hs_ => by first | exact (hk_.1) hs_ | (simp_all; done) | grind)) (fun k_ hk_ => by first | exact ⟨hk_.1.1, hk_.1.2.1, hk_.1.2.2⟩ | (simp_all; done) | grind)); have n1_ := Aside0.mk (Kd.R_reok rfl hy0 (fun k_ e_ => HO_13.out.1 k_ e_)); have n2_ := Aside0.mk (Kd.R_mono (ok' := fun k_ => some k_ ≠ (.slice Ao69 t298.length co69 : Value).ownBlock ∧ some k_ ≠ (.slice Ao68 t311.length co68 : Value).ownBlock ∧ some k_ ≠ (.slice Ao61 t328.length co61 : Value).ownBlock) (Kd.R_keptB (HO_307002.out) hkp (fun k_ hk_ hs_ => by first | exact (hk_.2.1) hs_ | (simp_all; done) | grind)) (fun k_ hk_ => by first | exact ⟨hk_.1.1, hk_.1.2.1, hk_.1.2.2⟩ | (simp_all; done) | grind)); have n3_ := Aside0.mk (Kd.R_mono (ok' := fun k_ => some k_ ≠ (.slice Ao69 t298.length co69 : Value).ownBlock ∧ some k_ ≠ (.slice Ao68 t311.length co68 : Value).ownBlock ∧ some k_ ≠ (.slice Ao57 t326.length co57 : Value).ownBlock) (Kd.R_keptB (HO_311000.out) hkp (fun k_ hk_ hs_ => by first | exact (hk_.2.1) hs_ | (simp_all; done) | grind)) (fun k_ hk_ => by first | exact ⟨hk_.1.1, hk_.1.2.1, hk_.1.2.2⟩ | (simp_all; done) | grind)); have n4_ := Aside0.mk (blk_kept (by (with_reducible repeat (first | refine blk_drewN ?_ _ | refine blk_drew ?_ | refine blk_alloc ?_ _)); exact BK286.out) hkp (fun hs_ => (fun e_ => (Kd.R_ne HO_13.out BK286.out (by decide)) e_) hs_)); have n5_ := Aside0.mk (blk_kept (by (with_reducible repeat (first | refine blk_drewN ?_ _ | refine blk_drew ?_ | refine blk_alloc ?_ _)); exact BK287.out) hkp (fun hs_ => (fun e_ => (Kd.R_ne HO_13.out BK287.out (by decide)) e_) hs_)); have n6_ := Aside0.mk (blk_kept (by (with_reducible repeat (first | refine blk_drewN ?_ _ | refine blk_drew ?_ | refine blk_alloc ?_ _)); exact BK306.out) hkp (fun hs_ => (fun e_ => (Kd.R_ne HO_13.out BK306.out (by decide)) e_) hs_)); have n7_ := Aside0.mk (blk_kept (by (with_reducible repeat (first | refine blk_drewN ?_ _ | refine blk_drew ?_ | refine blk_alloc ?_ _)); exact BK310.out) hkp (fun hs_ => (fun e_ => (Kd.R_ne HO_13.out BK310.out (by decide)) e_) hs_)); have n8_ := Aside0.mk (hb); clear HO_10; clear HO_13; clear HO_307002; clear HO_311000; clear BK286; clear BK287; clear BK306; clear BK310; clear HB; have HO_10 := n0_; have HO_13 := n1_; have HO_307002 := n2_; have HO_311000 := n3_; have BK286 := n4_; have BK287 := n5_; have BK306 := n6_; have BK310 := n7_; have HB := n8_; clear n0_ n1_ n2_ n3_ n4_ n5_ n6_ n7_ n8_; (try clear hb); (try clear hkp); (try clear hy0)) | ((with_reducible refine gate_callee (f := 30) rfl ?_); refine goesL_ (some 77) rfl rfl Try.func30 (by kernel_rfl) rfl #[.slice Ao68 t331.length co68, .int .i64 1] rfl (by (try simp only [List.map_toArray, List.map_cons, List.map_nil]); first | done | (rw [show t331.length = t311.length from (Kd.R_reads' HO_13.out).1.symm] <;> rfl) | rfl | (simp only [List.length_drop, List.length_take]; rfl)) ?_; (with_reducible refine (laws_heldIntS.calls kj36 _ _ t331 1 t332 _ ?side1 ?side2 A86.out).mono ?_); (case side1 => repeat (first | exact (Kd.R_reads' HO_13.out).2.2 | (with_reducible refine Kd.C_alloc ?_ _) | (with_reducible refine Kd.C_drewN ?_ _) | (with_reducible refine Kd.C_drew ?_))); (case side2 => rw [show t331.length = t311.length from (Kd.R_reads' HO_13.out).1.symm]; exact (Kd.R_reads' HO_13.out).2.1); rintro e w' ⟨rfl, ⟨nd, rfl⟩⟩; refine ⟨_, rfl, ?_⟩))
                            (try (rw [drewN_self w97]; generalize hq_ : World.drewN w97 _ = w97; have n0_ : Aside0 (Kd.R (Kd.int .i64) 3 w97 w.heap.size (fun k_ => some k_ ≠ (.slice Ao68 t311.length co68 : Value).ownBlock ∧ some k_ ≠ (.slice Ao57 t326.length co57 : Value).ownBlock ∧ some k_ ≠ (.slice Ao61 t328.length co61 : Value).ownBlock) (.slice Ao69 t298.length co69) t298) := ⟨by rw [← hq_]; exact (by (with_reducible repeat (first | apply Kd.R_alloc | apply Kd.R_drewN | apply Kd.R_drew)); exact HO_10.out)⟩; have n1_ : Aside0 (Kd.R (Kd.int .i64) 3 w97 w.heap.size (fun k_ => some k_ ≠ (.slice Ao69 t298.length co69 : Value).ownBlock ∧ some k_ ≠ (.slice Ao57 t326.length co57 : Value).ownBlock ∧ some k_ ≠ (.slice Ao61 t328.length co61 : Value).ownBlock) (.slice Ao68 t311.length co68) t331) := ⟨by rw [← hq_]; exact (by (with_reducible repeat (first | apply Kd.R_alloc | apply Kd.R_drewN | apply Kd.R_drew)); exact HO_13.out)⟩; have n2_ : Aside0 (Kd.R (Kd.int .i64) 3 w97 w.heap.size (fun k_ => some k_ ≠ (.slice Ao69 t298.length co69 : Value).ownBlock ∧ some k_ ≠ (.slice Ao68 t311.length co68 : Value).ownBlock ∧ some k_ ≠ (.slice Ao61 t328.length co61 : Value).ownBlock) (.slice Ao57 t326.length co57) t326) := ⟨by rw [← hq_]; exact (by (with_reducible repeat (first | apply Kd.R_alloc | apply Kd.R_drewN | apply Kd.R_drew)); exact HO_307002.out)⟩; have n3_ : Aside0 (Kd.R (Kd.int .i64) 3 w97 w.heap.size (fun k_ => some k_ ≠ (.slice Ao69 t298.length co69 : Value).ownBlock ∧ some k_ ≠ (.slice Ao68 t311.length co68 : Value).ownBlock ∧ some k_ ≠ (.slice Ao57 t326.length co57 : Value).ownBlock) (.slice Ao61 t328.length co61) t328) := ⟨by rw [← hq_]; exact (by (with_reducible repeat (first | apply Kd.R_alloc | apply Kd.R_drewN | apply Kd.R_drew)); exact HO_311000.out)⟩; have n4_ : Aside0 (w97.heap[gb286]? = some (.cells #[.int .i64 a0_0, .int .i64 a0_1, .slice A0_2 l0_2.length c0_2] 26 (0, 0))) := ⟨by rw [← hq_]; exact (by (with_reducible repeat (first | refine blk_drewN ?_ _ | refine blk_drew ?_ | refine blk_alloc ?_ _)); exact BK286.out)⟩; have n5_ : Aside0 (w97.heap[gb287]? = some (.cells #[.slice A1_0 l1_0.length c1_0] 56 (0, 0))) := ⟨by rw [← hq_]; exact (by (with_reducible repeat (first | refine blk_drewN ?_ _ | refine blk_drew ?_ | refine blk_alloc ?_ _)); exact BK287.out)⟩; have n6_ : Aside0 (w97.heap[gb306]? = some (.cells #[.int .i64 t301, .int .i64 t302, .slice Ao57 t326.length co57] 31 (0, 0))) := ⟨by rw [← hq_]; exact (by (with_reducible repeat (first | refine blk_drewN ?_ _ | refine blk_drew ?_ | refine blk_alloc ?_ _)); exact BK306.out)⟩; have n7_ : Aside0 (w97.heap[gb310]? = some (.cells #[.slice Ao61 t328.length co61] 40 (0, 0))) := ⟨by rw [← hq_]; exact (by (with_reducible repeat (first | refine blk_drewN ?_ _ | refine blk_drew ?_ | refine blk_alloc ?_ _)); exact BK310.out)⟩; have n8_ : Aside0 (Below w.heap.size w w97) := ⟨by rw [← hq_]; exact (by repeat (first | (with_reducible first | exact HB.out | apply below_alloc | apply pw_below_drewN | apply below_drew1 | refine below_set ?_ GE286.out | refine below_set ?_ GE287.out | refine below_set ?_ GE306.out | refine below_set ?_ GE310.out) | exact HB.out))⟩; clear HO_10 HO_13 HO_307002 HO_311000 BK286 BK287 BK306 BK310 HB hq_; have HO_10 := n0_; have HO_13 := n1_; have HO_307002 := n2_; have HO_311000 := n3_; have BK286 := n4_; have BK287 := n5_; have BK306 := n6_; have BK310 := n7_; have HB := n8_; clear n0_ n1_ n2_ n3_ n4_ n5_ n6_ n7_ n8_))
                            have n0_ := Aside0.mk (Kd.R_drew HO_10.out)
                            have n1_ := Aside0.mk (Kd.R_drew HO_13.out)
                            have n2_ := Aside0.mk (Kd.R_drew HO_307002.out)
                            have n3_ := Aside0.mk (Kd.R_drew HO_311000.out)
                            have n4_ := Aside0.mk (blk_drew BK286.out)
                            have n5_ := Aside0.mk (blk_drew BK287.out)
                            have n6_ := Aside0.mk (blk_drew BK306.out)
                            have n7_ := Aside0.mk (blk_drew BK310.out)
                            have n8_ := Aside0.mk (below_drew1 HB.out)
                            clear HO_10
                            clear HO_13
                            clear HO_307002
                            clear HO_311000
                            clear BK286
                            clear BK287
                            clear BK306
                            clear BK310
                            clear HB
                            have HO_10 := n0_
                            have HO_13 := n1_
                            have HO_307002 := n2_
                            have HO_311000 := n3_
                            have BK286 := n4_
                            have BK287 := n5_
                            have BK306 := n6_
                            have BK310 := n7_
                            have HB := n8_
                            clear n0_ n1_ n2_ n3_ n4_ n5_ n6_ n7_ n8_
                            refine start_ (n := 8) (S := fun w' => w'.cell? ⟨gb286, 0, none⟩ = some (.int .i64 a0_0) ∧ w'.cell? ⟨gb286, 1, none⟩ = some (.int .i64 a0_1) ∧ w'.cell? ⟨gb286, 2, none⟩ = some (.slice A0_2 l0_2.length c0_2) ∧ w'.cell? ⟨gb287, 0, none⟩ = some (.slice A1_0 l1_0.length c1_0)) (ds := []) #[false, false, false, false, false, false, false, false] (by kernel_rfl) rfl rfl ⟨(blk_cell BK286.out 0).trans rfl, (blk_cell BK286.out 1).trans rfl, (blk_cell BK286.out 2).trans rfl, (blk_cell BK287.out 0).trans rfl⟩ (fun hHeld => ?_); refine with_tabW laws_FnExactWalkTable.tab31 laws_FnExactWalkTable.bits31 (fun HT_ HW_ => ?_)
                            generalize w97.drew = w98 at HO_10 HO_13 HO_307002 HO_311000 BK286 BK287 BK306 BK310 HB hHeld ⊢
                            refine pure_ (i := 4) (N := some 87) (v := ?_) (a' := ?_) #[false, false, false, false, true, false, false, false] rfl rfl (any_of HT_.out (by kernel_rfl)) (fun _ _ _ h => h) (Or.inl ⟨by rfl, ?_⟩) ?_ ?_
                            rotate_left
                            · intro w'
                              go_simp
                              with_reducible rfl
                            rotate_left
                            · simp only [Act.put, List.setIfInBounds_toArray, List.set_cons_zero, List.set_cons_succ, i64_w, i32_w]
                              rfl
                            refine pure_ (i := 5) (N := some 88) (v := ?_) (a' := ?_) #[false, false, false, false, true, true, false, false] rfl rfl (any_of HT_.out (by kernel_rfl)) (fun _ _ _ h => h) (Or.inl ⟨by rfl, ?_⟩) ?_ ?_
                            rotate_left
                            · intro w'
                              go_simp
                              with_reducible rfl
                            rotate_left
                            · simp only [Act.put, List.setIfInBounds_toArray, List.set_cons_zero, List.set_cons_succ, i64_w, i32_w]
                              rfl
                            refine take_ (i := 0) (N := some 83) (v := ?_) (a' := ?_) #[true, false, false, false, true, true, false, false] rfl rfl (take_ofW HT_.out HW_.out (by kernel_rfl)) (fun _ _ _ h => h) (Or.inl ⟨by rfl, ?_⟩) hHeld ?_ ?_
                            rotate_left
                            · rintro w' ⟨s0, s1, s2, s3⟩
                              go_simp
                              with_reducible rfl
                            rotate_left
                            · simp only [Act.put, List.setIfInBounds_toArray, List.set_cons_zero, List.set_cons_succ, i64_w, i32_w]
                              rfl
                            refine take_ (i := 2) (N := some 85) (v := ?_) (a' := ?_) #[true, false, true, false, true, true, false, false] rfl rfl (take_ofW HT_.out HW_.out (by kernel_rfl)) (fun _ _ _ h => h) (Or.inl ⟨by rfl, ?_⟩) hHeld ?_ ?_
                            rotate_left
                            · rintro w' ⟨s0, s1, s2, s3⟩
                              go_simp
                              with_reducible rfl
                            rotate_left
                            · simp only [Act.put, List.setIfInBounds_toArray, List.set_cons_zero, List.set_cons_succ, i64_w, i32_w]
                              rfl
                            refine one_ (i := 1) (N := some 84) #[true, true, true, false, true, true, false, false] rfl rfl (one_of HT_.out (by kernel_rfl)) (by decide) (fun K hK => ?_)
                            refine goes_ Try.func13 (by kernel_rfl) rfl #[.agg #[.int .i64 a0_0, .int .i64 a0_1, .slice A0_2 l0_2.length c0_2]] (by rfl) rfl rfl (by (try simp only [List.map_toArray, List.map_cons, List.map_nil]); first | done | rfl | (simp only [List.length_drop, List.length_take]; rfl)) ?_
                            with_reducible refine (laws_toMesh.calls kj36 a0_0 a0_1 _ _ l0_2 t333 t334 t335 _ ?side1 ?side2 A89.out).mono ?_
                            (case side1 => repeat (first | exact (Kd.C_below HR0_2.out HB.out) | (with_reducible refine Kd.C_alloc ?_ _) | (with_reducible refine Kd.C_drewN ?_ _) | (with_reducible refine Kd.C_drew ?_)))
                            (case side2 => exact HC0_2.out)
                            rintro e w99 ⟨v336, rfl, ho0, hb⟩
                            refine ⟨_, rfl, ?_⟩
                            have n0_ := Aside0.mk (Kd.R_elder' (by (with_reducible repeat (first | apply Kd.R_alloc | apply Kd.R_drewN | apply Kd.R_drew)); exact HO_10.out) (Kd.R_base ho0) hb)
                            have n1_ := Aside0.mk (Kd.R_elder' (by (with_reducible repeat (first | apply Kd.R_alloc | apply Kd.R_drewN | apply Kd.R_drew)); exact HO_13.out) (Kd.R_base ho0) hb)
                            have n2_ := Aside0.mk (Kd.R_elder' (by (with_reducible repeat (first | apply Kd.R_alloc | apply Kd.R_drewN | apply Kd.R_drew)); exact HO_307002.out) (Kd.R_base ho0) hb)
                            have n3_ := Aside0.mk (Kd.R_elder' (by (with_reducible repeat (first | apply Kd.R_alloc | apply Kd.R_drewN | apply Kd.R_drew)); exact HO_311000.out) (Kd.R_base ho0) hb)
                            have n4_ := Aside0.mk (Kd.R_lower (Kd.R_new' (Kd.R_new' (Kd.R_new' (Kd.R_new' ho0 (Kd.R_lt (by (with_reducible repeat (first | apply Kd.R_alloc | apply Kd.R_drewN | apply Kd.R_drew)); exact HO_10.out))) (Kd.R_lt (by (with_reducible repeat (first | apply Kd.R_alloc | apply Kd.R_drewN | apply Kd.R_drew)); exact HO_13.out))) (Kd.R_lt (by (with_reducible repeat (first | apply Kd.R_alloc | apply Kd.R_drewN | apply Kd.R_drew)); exact HO_307002.out))) (Kd.R_lt (by (with_reducible repeat (first | apply Kd.R_alloc | apply Kd.R_drewN | apply Kd.R_drew)); exact HO_311000.out))) (below_size (by repeat (first | (with_reducible first | exact HB.out | apply below_alloc | apply pw_below_drewN | apply below_drew1 | refine below_set ?_ GE286.out | refine below_set ?_ GE287.out | refine below_set ?_ GE306.out | refine below_set ?_ GE310.out) | exact HB.out))))
                            have n5_ := Aside0.mk (blk_below (g := gb286) (o := .cells #[.int .i64 a0_0, .int .i64 a0_1, .slice A0_2 l0_2.length c0_2] 26 (0, 0)) (by (with_reducible repeat (first | refine blk_drewN ?_ _ | refine blk_drew ?_ | refine blk_alloc ?_ _)); exact BK286.out) hb)
                            have n6_ := Aside0.mk (blk_below (g := gb287) (o := .cells #[.slice A1_0 l1_0.length c1_0] 56 (0, 0)) (by (with_reducible repeat (first | refine blk_drewN ?_ _ | refine blk_drew ?_ | refine blk_alloc ?_ _)); exact BK287.out) hb)
                            have n7_ := Aside0.mk (blk_below (g := gb306) (o := .cells #[.int .i64 t301, .int .i64 t302, .slice Ao57 t326.length co57] 31 (0, 0)) (by (with_reducible repeat (first | refine blk_drewN ?_ _ | refine blk_drew ?_ | refine blk_alloc ?_ _)); exact BK306.out) hb)
                            have n8_ := Aside0.mk (blk_below (g := gb310) (o := .cells #[.slice Ao61 t328.length co61] 40 (0, 0)) (by (with_reducible repeat (first | refine blk_drewN ?_ _ | refine blk_drew ?_ | refine blk_alloc ?_ _)); exact BK310.out) hb)
                            have n9_ := Aside0.mk (below_step (by repeat (first | (with_reducible first | exact HB.out | apply below_alloc | apply pw_below_drewN | apply below_drew1 | refine below_set ?_ GE286.out | refine below_set ?_ GE287.out | refine below_set ?_ GE306.out | refine below_set ?_ GE310.out) | exact HB.out)) hb)
                            clear HO_10
                            clear HO_13
                            clear HO_307002
                            clear HO_311000
                            clear BK286
                            clear BK287
                            clear BK306
                            clear BK310
                            clear HB
                            have HO_10 := n0_
                            have HO_13 := n1_
                            have HO_307002 := n2_
                            have HO_311000 := n3_
                            have HO337 := n4_
                            have BK286 := n5_
                            have BK287 := n6_
                            have BK306 := n7_
                            have BK310 := n8_
                            have HB := n9_
                            clear n0_ n1_ n2_ n3_ n4_ n5_ n6_ n7_ n8_ n9_
                            (try clear hb)
                            (try clear hb2)
                            (try clear hk)
                            (try clear hi)
                            (try clear ho0)
                            refine hK.out _ _ ⟨(blk_cell BK286.out 0).trans rfl, (blk_cell BK286.out 1).trans rfl, (blk_cell BK286.out 2).trans rfl, (blk_cell BK287.out 0).trans rfl⟩ (fun hHeld => ?_)
                            clear hK K
                            refine norm_ (a' := ?_) ?_ ?_
                            rotate_left
                            · show Act.put _ (some 84) _ = _
                              simp only [Act.put, List.setIfInBounds_toArray, List.set_cons_zero, List.set_cons_succ, i64_w, i32_w]
                              rfl
                            refine one_ (i := 3) (N := some 86) #[true, true, true, true, true, true, false, false] rfl rfl (one_of HT_.out (by kernel_rfl)) (by decide) (fun K hK => ?_)
                            refine goes_ Try.func39 (by kernel_rfl) rfl #[.agg #[.slice A1_0 l1_0.length c1_0]] (by rfl) rfl rfl (by (try simp only [List.map_toArray, List.map_cons, List.map_nil]); first | done | rfl | (simp only [List.length_drop, List.length_take]; rfl)) ?_
                            with_reducible refine (laws_toTable.calls kj36 _ _ l1_0 t338 _ ?side1 ?side2 A90.out).mono ?_
                            (case side1 => repeat (first | exact (Kd.C_below HR1_0.out HB.out) | (with_reducible refine Kd.C_alloc ?_ _) | (with_reducible refine Kd.C_drewN ?_ _) | (with_reducible refine Kd.C_drew ?_)))
                            (case side2 => exact HC1_0.out)
                            rintro e w100 ⟨v339, rfl, ho0, hb⟩
                            refine ⟨_, rfl, ?_⟩
                            have n0_ := Aside0.mk (Kd.R_elder' (by (with_reducible repeat (first | apply Kd.R_alloc | apply Kd.R_drewN | apply Kd.R_drew)); exact HO_10.out) (Kd.R_base ho0) hb)
                            have n1_ := Aside0.mk (Kd.R_elder' (by (with_reducible repeat (first | apply Kd.R_alloc | apply Kd.R_drewN | apply Kd.R_drew)); exact HO_13.out) (Kd.R_base ho0) hb)
                            have n2_ := Aside0.mk (Kd.R_elder' (by (with_reducible repeat (first | apply Kd.R_alloc | apply Kd.R_drewN | apply Kd.R_drew)); exact HO_307002.out) (Kd.R_base ho0) hb)
                            have n3_ := Aside0.mk (Kd.R_elder' (by (with_reducible repeat (first | apply Kd.R_alloc | apply Kd.R_drewN | apply Kd.R_drew)); exact HO_311000.out) (Kd.R_base ho0) hb)
                            have n4_ := Aside0.mk (Kd.R_elder' (by (with_reducible repeat (first | apply Kd.R_alloc | apply Kd.R_drewN | apply Kd.R_drew)); exact HO337.out) (Kd.R_base ho0) hb)
                            have n5_ := Aside0.mk (Kd.R_lower (Kd.R_new' (Kd.R_new' (Kd.R_new' (Kd.R_new' (Kd.R_new' ho0 (Kd.R_lt (by (with_reducible repeat (first | apply Kd.R_alloc | apply Kd.R_drewN | apply Kd.R_drew)); exact HO_10.out))) (Kd.R_lt (by (with_reducible repeat (first | apply Kd.R_alloc | apply Kd.R_drewN | apply Kd.R_drew)); exact HO_13.out))) (Kd.R_lt (by (with_reducible repeat (first | apply Kd.R_alloc | apply Kd.R_drewN | apply Kd.R_drew)); exact HO_307002.out))) (Kd.R_lt (by (with_reducible repeat (first | apply Kd.R_alloc | apply Kd.R_drewN | apply Kd.R_drew)); exact HO_311000.out))) (Kd.R_lt (by (with_reducible repeat (first | apply Kd.R_alloc | apply Kd.R_drewN | apply Kd.R_drew)); exact HO337.out))) (below_size (by repeat (first | (with_reducible first | exact HB.out | apply below_alloc | apply pw_below_drewN | apply below_drew1 | refine below_set ?_ GE286.out | refine below_set ?_ GE287.out | refine below_set ?_ GE306.out | refine below_set ?_ GE310.out) | exact HB.out))))
                            have n6_ := Aside0.mk (blk_below (g := gb286) (o := .cells #[.int .i64 a0_0, .int .i64 a0_1, .slice A0_2 l0_2.length c0_2] 26 (0, 0)) (by (with_reducible repeat (first | refine blk_drewN ?_ _ | refine blk_drew ?_ | refine blk_alloc ?_ _)); exact BK286.out) hb)
                            have n7_ := Aside0.mk (blk_below (g := gb287) (o := .cells #[.slice A1_0 l1_0.length c1_0] 56 (0, 0)) (by (with_reducible repeat (first | refine blk_drewN ?_ _ | refine blk_drew ?_ | refine blk_alloc ?_ _)); exact BK287.out) hb)
                            have n8_ := Aside0.mk (blk_below (g := gb306) (o := .cells #[.int .i64 t301, .int .i64 t302, .slice Ao57 t326.length co57] 31 (0, 0)) (by (with_reducible repeat (first | refine blk_drewN ?_ _ | refine blk_drew ?_ | refine blk_alloc ?_ _)); exact BK306.out) hb)
                            have n9_ := Aside0.mk (blk_below (g := gb310) (o := .cells #[.slice Ao61 t328.length co61] 40 (0, 0)) (by (with_reducible repeat (first | refine blk_drewN ?_ _ | refine blk_drew ?_ | refine blk_alloc ?_ _)); exact BK310.out) hb)
                            have n10_ := Aside0.mk (below_step (by repeat (first | (with_reducible first | exact HB.out | apply below_alloc | apply pw_below_drewN | apply below_drew1 | refine below_set ?_ GE286.out | refine below_set ?_ GE287.out | refine below_set ?_ GE306.out | refine below_set ?_ GE310.out) | exact HB.out)) hb)
                            clear HO_10
                            clear HO_13
                            clear HO_307002
                            clear HO_311000
                            clear HO337
                            clear BK286
                            clear BK287
                            clear BK306
                            clear BK310
                            clear HB
                            have HO_10 := n0_
                            have HO_13 := n1_
                            have HO_307002 := n2_
                            have HO_311000 := n3_
                            have HO337 := n4_
                            have HO340 := n5_
                            have BK286 := n6_
                            have BK287 := n7_
                            have BK306 := n8_
                            have BK310 := n9_
                            have HB := n10_
                            clear n0_ n1_ n2_ n3_ n4_ n5_ n6_ n7_ n8_ n9_ n10_
                            (try clear hb)
                            (try clear hb2)
                            (try clear hk)
                            (try clear hi)
                            (try clear ho0)
                            obtain ⟨Ao101, co101, eo101⟩ := Kd.R_slice HO337.out
                            (first | subst eo101 | (injection eo101 with f1_ f2_ f3_; have f4_ := f1_.symm; have f5_ := f3_.symm; clear f1_ f2_ f3_; subst f4_; subst f5_))
                            obtain ⟨Ao102, co102, eo102⟩ := Kd.R_slice HO340.out
                            (first | subst eo102 | (injection eo102 with f1_ f2_ f3_; have f4_ := f1_.symm; have f5_ := f3_.symm; clear f1_ f2_ f3_; subst f4_; subst f5_))
                            refine hK.out _ _ ⟨(blk_cell BK286.out 0).trans rfl, (blk_cell BK286.out 1).trans rfl, (blk_cell BK286.out 2).trans rfl, (blk_cell BK287.out 0).trans rfl⟩ (fun hHeld => ?_)
                            clear hK K
                            refine norm_ (a' := ?_) ?_ ?_
                            rotate_left
                            · show Act.put _ (some 86) _ = _
                              simp only [Act.put, List.setIfInBounds_toArray, List.set_cons_zero, List.set_cons_succ, i64_w, i32_w]
                              rfl
                            refine one_ (i := 6) (N := some 89) #[true, true, true, true, true, true, true, false] rfl rfl (one_of HT_.out (by kernel_rfl)) (by decide) (fun K hK => ?_)
                            refine goes_ Try.func21 (by kernel_rfl) rfl #[.agg #[.int .i64 t333, .int .i64 t334, .slice Ao101 t335.length co101], .agg #[.slice Ao102 t338.length co102], .int .i64 a2, .int .i64 a3] (by rfl) rfl rfl (by (try simp only [List.map_toArray, List.map_cons, List.map_nil]); first | done | rfl | (simp only [List.length_drop, List.length_take]; rfl)) ?_
                            with_reducible refine (impl_WalkTable.calls kj36 t333 t334 _ _ t335 _ _ t338 a2 a3 t341 _ ?side1 ?side2 ?side3 ?side4 A91.out).mono ?_
                            (case side1 => repeat (first | exact (Kd.R_reads' HO337.out).2.2 | (with_reducible refine Kd.C_alloc ?_ _) | (with_reducible refine Kd.C_drewN ?_ _) | (with_reducible refine Kd.C_drew ?_)))
                            (case side2 => exact (Kd.R_reads' HO337.out).2.1)
                            (case side3 => repeat (first | exact (Kd.R_reads' HO340.out).2.2 | (with_reducible refine Kd.C_alloc ?_ _) | (with_reducible refine Kd.C_drewN ?_ _) | (with_reducible refine Kd.C_drew ?_)))
                            (case side4 => exact (Kd.R_reads' HO340.out).2.1)
                            rintro e w103 ⟨v342, rfl, ho0, hb⟩
                            refine ⟨_, rfl, ?_⟩
                            have n0_ := Aside0.mk (Kd.R_elder' (by (with_reducible repeat (first | apply Kd.R_alloc | apply Kd.R_drewN | apply Kd.R_drew)); exact HO_10.out) (Kd.R_base ho0) hb)
                            have n1_ := Aside0.mk (Kd.R_elder' (by (with_reducible repeat (first | apply Kd.R_alloc | apply Kd.R_drewN | apply Kd.R_drew)); exact HO_13.out) (Kd.R_base ho0) hb)
                            have n2_ := Aside0.mk (Kd.R_elder' (by (with_reducible repeat (first | apply Kd.R_alloc | apply Kd.R_drewN | apply Kd.R_drew)); exact HO_307002.out) (Kd.R_base ho0) hb)
                            have n3_ := Aside0.mk (Kd.R_elder' (by (with_reducible repeat (first | apply Kd.R_alloc | apply Kd.R_drewN | apply Kd.R_drew)); exact HO_311000.out) (Kd.R_base ho0) hb)
                            have n4_ := Aside0.mk (Kd.R_elder' (by (with_reducible repeat (first | apply Kd.R_alloc | apply Kd.R_drewN | apply Kd.R_drew)); exact HO337.out) (Kd.R_base ho0) hb)
                            have n5_ := Aside0.mk (Kd.R_elder' (by (with_reducible repeat (first | apply Kd.R_alloc | apply Kd.R_drewN | apply Kd.R_drew)); exact HO340.out) (Kd.R_base ho0) hb)
                            have n6_ := Aside0.mk (Kd.R_lower (Kd.R_new' (Kd.R_new' (Kd.R_new' (Kd.R_new' (Kd.R_new' (Kd.R_new' ho0 (Kd.R_lt (by (with_reducible repeat (first | apply Kd.R_alloc | apply Kd.R_drewN | apply Kd.R_drew)); exact HO_10.out))) (Kd.R_lt (by (with_reducible repeat (first | apply Kd.R_alloc | apply Kd.R_drewN | apply Kd.R_drew)); exact HO_13.out))) (Kd.R_lt (by (with_reducible repeat (first | apply Kd.R_alloc | apply Kd.R_drewN | apply Kd.R_drew)); exact HO_307002.out))) (Kd.R_lt (by (with_reducible repeat (first | apply Kd.R_alloc | apply Kd.R_drewN | apply Kd.R_drew)); exact HO_311000.out))) (Kd.R_lt (by (with_reducible repeat (first | apply Kd.R_alloc | apply Kd.R_drewN | apply Kd.R_drew)); exact HO337.out))) (Kd.R_lt (by (with_reducible repeat (first | apply Kd.R_alloc | apply Kd.R_drewN | apply Kd.R_drew)); exact HO340.out))) (below_size (by repeat (first | (with_reducible first | exact HB.out | apply below_alloc | apply pw_below_drewN | apply below_drew1 | refine below_set ?_ GE286.out | refine below_set ?_ GE287.out | refine below_set ?_ GE306.out | refine below_set ?_ GE310.out) | exact HB.out))))
                            have n7_ := Aside0.mk (blk_below (g := gb286) (o := .cells #[.int .i64 a0_0, .int .i64 a0_1, .slice A0_2 l0_2.length c0_2] 26 (0, 0)) (by (with_reducible repeat (first | refine blk_drewN ?_ _ | refine blk_drew ?_ | refine blk_alloc ?_ _)); exact BK286.out) hb)
                            have n8_ := Aside0.mk (blk_below (g := gb287) (o := .cells #[.slice A1_0 l1_0.length c1_0] 56 (0, 0)) (by (with_reducible repeat (first | refine blk_drewN ?_ _ | refine blk_drew ?_ | refine blk_alloc ?_ _)); exact BK287.out) hb)
                            have n9_ := Aside0.mk (blk_below (g := gb306) (o := .cells #[.int .i64 t301, .int .i64 t302, .slice Ao57 t326.length co57] 31 (0, 0)) (by (with_reducible repeat (first | refine blk_drewN ?_ _ | refine blk_drew ?_ | refine blk_alloc ?_ _)); exact BK306.out) hb)
                            have n10_ := Aside0.mk (blk_below (g := gb310) (o := .cells #[.slice Ao61 t328.length co61] 40 (0, 0)) (by (with_reducible repeat (first | refine blk_drewN ?_ _ | refine blk_drew ?_ | refine blk_alloc ?_ _)); exact BK310.out) hb)
                            have n11_ := Aside0.mk (below_step (by repeat (first | (with_reducible first | exact HB.out | apply below_alloc | apply pw_below_drewN | apply below_drew1 | refine below_set ?_ GE286.out | refine below_set ?_ GE287.out | refine below_set ?_ GE306.out | refine below_set ?_ GE310.out) | exact HB.out)) hb)
                            clear HO_10
                            clear HO_13
                            clear HO_307002
                            clear HO_311000
                            clear HO337
                            clear HO340
                            clear BK286
                            clear BK287
                            clear BK306
                            clear BK310
                            clear HB
                            have HO_10 := n0_
                            have HO_13 := n1_
                            have HO_307002 := n2_
                            have HO_311000 := n3_
                            have HO337 := n4_
                            have HO340 := n5_
                            have HO343 := n6_
                            have BK286 := n7_
                            have BK287 := n8_
                            have BK306 := n9_
                            have BK310 := n10_
                            have HB := n11_
                            clear n0_ n1_ n2_ n3_ n4_ n5_ n6_ n7_ n8_ n9_ n10_ n11_
                            (try clear hb)
                            (try clear hb2)
                            (try clear hk)
                            (try clear hi)
                            (try clear ho0)
                            refine hK.out _ _ ⟨(blk_cell BK286.out 0).trans rfl, (blk_cell BK286.out 1).trans rfl, (blk_cell BK286.out 2).trans rfl, (blk_cell BK287.out 0).trans rfl⟩ (fun hHeld => ?_)
                            clear hK K
                            refine norm_ (a' := ?_) ?_ ?_
                            rotate_left
                            · show Act.put _ (some 89) _ = _
                              simp only [Act.put, List.setIfInBounds_toArray, List.set_cons_zero, List.set_cons_succ, i64_w, i32_w]
                              rfl
                            refine pure_ (i := 7) (N := some 17) (v := ?_) (a' := ?_) #[true, true, true, true, true, true, true, true] rfl rfl (any_of HT_.out (by kernel_rfl)) (fun _ _ _ h => h) (Or.inl ⟨by rfl, ?_⟩) ?_ ?_
                            rotate_left
                            · intro w'
                              go_simp
                              with_reducible rfl
                            rotate_left
                            · simp only [Act.put, List.setIfInBounds_toArray, List.set_cons_zero, List.set_cons_succ, i64_w, i32_w]
                              rfl
                            refine done_ (done_of HT_.out (by kernel_rfl)) ?_
                            obtain ⟨Ao104, co104, eo104⟩ := Kd.R_slice HO343.out
                            subst eo104
                            try go_wp2_with (first | ((with_reducible refine gate_callee (f := 17) rfl ?_); refine goesL_ (some 92) rfl rfl Try.func17 (by kernel_rfl) rfl #[.slice Ao104 t341.length co104, .slice Ao69 t298.length co69] rfl (by (try simp only [List.map_toArray, List.map_cons, List.map_nil]); first | done | rfl | (simp only [List.length_drop, List.length_take]; rfl)) ?_; (with_reducible refine (laws_eqIntS.calls kj36 _ _ t341 _ _ t298 true _ ?side1 ?side2 ?side3 ?side4 A92.out).mono ?_); (case side1 => repeat (first | exact (Kd.R_reads' HO343.out).2.2 | (with_reducible refine Kd.C_alloc ?_ _) | (with_reducible refine Kd.C_drewN ?_ _) | (with_reducible refine Kd.C_drew ?_))); (case side2 => exact (Kd.R_reads' HO343.out).2.1); (case side3 => repeat (first | exact (Kd.R_reads' HO_10.out).2.2 | (with_reducible refine Kd.C_alloc ?_ _) | (with_reducible refine Kd.C_drewN ?_ _) | (with_reducible refine Kd.C_drew ?_))); (case side4 => exact (Kd.R_reads' HO_10.out).2.1); rintro e w' ⟨rfl, ⟨nd, rfl⟩⟩; refine ⟨_, rfl, ?_⟩) | ((with_reducible refine gate_callee (f := 30) rfl ?_); refine goesL_ (some 96) rfl rfl Try.func30 (by kernel_rfl) rfl #[.slice Ao68 t331.length co68, .int .i64 1] rfl (by (try simp only [List.map_toArray, List.map_cons, List.map_nil]); first | done | (rw [show t331.length = t311.length from (Kd.R_reads' HO_13.out).1.symm] <;> rfl) | rfl | (simp only [List.length_drop, List.length_take]; rfl)) ?_; (with_reducible refine (laws_heldIntS.calls kj36 _ _ t331 1 t345 _ ?side1 ?side2 A94.out).mono ?_); (case side1 => repeat (first | exact (Kd.R_reads' HO_13.out).2.2 | (with_reducible refine Kd.C_alloc ?_ _) | (with_reducible refine Kd.C_drewN ?_ _) | (with_reducible refine Kd.C_drew ?_))); (case side2 => rw [show t331.length = t311.length from (Kd.R_reads' HO_13.out).1.symm]; exact (Kd.R_reads' HO_13.out).2.1); rintro e w' ⟨rfl, ⟨nd, rfl⟩⟩; refine ⟨_, rfl, ?_⟩))
                            go_ret
                            exact ⟨by first | rfl | (simp [errW_none, errW_some] <;> rfl) | (simp [*, errW_none, errW_some] <;> rfl), by repeat (first | (with_reducible first | exact HB.out | apply below_alloc | apply pw_below_drewN | apply below_drew1 | refine below_set ?_ GE286.out | refine below_set ?_ GE287.out | refine below_set ?_ GE306.out | refine below_set ?_ GE310.out) | exact HB.out)⟩
                          · rw [if_neg c96] at H
                            have c96b0 : (t345 == t330) = false := beq_eq_false_iff_ne.mpr c96
                            have c96b1 : (t345 != t330) = true := bne_iff_ne.mpr c96
                            obtain rfl := Option.some.inj H
                            exact absurd HRT.out (by simp)
                      · replace c93 := Bool.eq_false_iff.mpr c93
                        subst c93
                        have H1 : (some false) = some r := by rw [if_neg (show ¬ (false = true) by decide)] at H; exact H
                        clear H
                        have H := H1
                        clear H1
                        obtain rfl := Option.some.inj H
                        exact absurd HRT.out (by simp)
                    · rw [if_neg c88] at H
                      have c88b0 : (t332 == t330) = false := beq_eq_false_iff_ne.mpr c88
                      have c88b1 : (t332 != t330) = true := bne_iff_ne.mpr c88
                      obtain rfl := Option.some.inj H
                      exact absurd HRT.out (by simp)
          · replace c34 := Bool.eq_false_iff.mpr c34
            subst c34
            have H1 : (some false) = some r := by rw [if_neg (show ¬ (false = true) by decide)] at H; exact H
            clear H
            have H := H1
            clear H1
            obtain rfl := Option.some.inj H
            exact absurd HRT.out (by simp)
        · replace c31 := Bool.eq_false_iff.mpr c31
          subst c31
          have H1 : (some false) = some r := by rw [if_neg (show ¬ (false = true) by decide)] at H; exact H
          clear H
          have H := H1
          clear H1
          obtain rfl := Option.some.inj H
          exact absurd HRT.out (by simp)
      · replace c28 := Bool.eq_false_iff.mpr c28
        subst c28
        have H1 : (some false) = some r := by rw [if_neg (show ¬ (false = true) by decide)] at H; exact H
        clear H
        have H := H1
        clear H1
        obtain rfl := Option.some.inj H
        exact absurd HRT.out (by simp)

/-- THE ONE PURE STATEMENT of laws_FnExactWalkTable. -/
def laws_FnExactWalkTable.Pure : Prop := ∀ (a0_0 : Int) (a0_1 : Int) (l0_2 : List Int) (l1_0 : List Int) (a2 : Int) (a3 : Int), (Lit.int .i64 a0_0).wf = true → (Lit.int .i64 a0_1).wf = true → l0_2.length ≤ maxLen → (∀ y ∈ l0_2, (Lit.int .i64 y).wf = true) → l1_0.length ≤ maxLen → (∀ y ∈ l1_0, (Lit.int .i64 y).wf = true) → (Lit.int .i64 a2).wf = true → (Lit.int .i64 a3).wf = true → ∃ k, laws_FnExactWalkTable.f k a0_0 a0_1 l0_2 l1_0 a2 a3 = some true
theorem laws_FnExactWalkTable.walk (P : laws_FnExactWalkTable.Pure) (a0_0 : Int) (a0_1 : Int) (A0_2 : Option Addr) (c0_2 : Nat) (l0_2 : List Int) (A1_0 : Option Addr) (c1_0 : Nat) (l1_0 : List Int) (a2 : Int) (a3 : Int) (w : World) (hr0_2 : Kd.C (Kd.int .i64) w A0_2 l0_2.length l0_2) (hc0_2 : l0_2.length ≤ c0_2) (hr1_0 : Kd.C (Kd.int .i64) w A1_0 l1_0.length l1_0) (hc1_0 : l1_0.length ≤ c1_0) (hw0 : (Lit.int .i64 a0_0).wf = true) (hw1 : (Lit.int .i64 a0_1).wf = true) (hw2 : l0_2.length ≤ maxLen) (hw3 : (∀ y ∈ l0_2, (Lit.int .i64 y).wf = true)) (hw4 : l1_0.length ≤ maxLen) (hw5 : (∀ y ∈ l1_0, (Lit.int .i64 y).wf = true)) (hw6 : (Lit.int .i64 a2).wf = true) (hw7 : (Lit.int .i64 a3).wf = true) :
    Calls Try.prog 10 #[.agg #[.int .i64 a0_0, .int .i64 a0_1, .slice A0_2 l0_2.length c0_2], .agg #[.slice A1_0 l1_0.length c1_0], .int .i64 a2, .int .i64 a3] w fun e w' => e = .returned (.bool true) ∧ Below w.heap.size w w' := by
  have h := P a0_0 a0_1 l0_2 l1_0 a2 a3 hw0 hw1 hw2 hw3 hw4 hw5 hw6 hw7
  obtain ⟨k, h⟩ := h
  refine (laws_FnExactWalkTable.calls k a0_0 a0_1 A0_2 c0_2 l0_2 A1_0 c1_0 l1_0 a2 a3 true w hr0_2 hc0_2 hr1_0 hc1_0 rfl h).mono ?_
  rintro e w' ⟨rfl, hd⟩
  exact ⟨rfl, hd⟩


end Go.Proofs.Ytiehmmannfambaa.XW
