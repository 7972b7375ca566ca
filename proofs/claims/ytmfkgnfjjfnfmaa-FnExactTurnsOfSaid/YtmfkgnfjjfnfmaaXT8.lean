/- What is proved: contracts of functions of the program (each: where its Lean function answers, the call returns that answer); written by a program of this session. -/
import Derived.Test.YtmfkgnfjjfnfmaaXT0
import Derived.Test.YtmfkgnfjjfnfmaaXT1
import Derived.Test.YtmfkgnfjjfnfmaaXT4
import Derived.Test.YtmfkgnfjjfnfmaaXT6
import Derived.Test.YtmfkgnfjjfnfmaaXT7
namespace Go.Proofs.Ytmfkgnfjjfnfmaa.XT
open Go.RowKit Go.Proofs.YtmfkgnfjjfnfmaaW.PrintWords Go.Proofs.YtmfkgnfjjfnfmaaW.PrintLast Go.Proofs.YtmfkgnfjjfnfmaaW.PrintMore
attribute [local go_sem] max2_int min2_int max_two min_two max_three min_three max_four min_four   -- for this text's walks alone
set_option linter.unusedVariables false
set_option linter.unusedSimpArgs false

/-! ### laws_FnExactTurnsOf: function 4 -/
def laws_FnExactTurnsOf.j0 : Nat → List Int → List Int → Bool → Int → Int → List Int → List Int → Option (Bool)
  | 0, _, _, _, _, _, _, _ => none
  | k + 1, x6, x9, x63, x317000, x317001, x317002, x318000 => if x63 = true then (some false) else ((laws_markIntS.f k x9 1).bind fun bt360 => ((laws_heldIntS.f k bt360.2 1).bind fun t362 => (if t362 < 0 then (some false) else (if t362 = bt360.1 then ((laws_toMesh.f k x317000 x317001 x317002).bind fun bt363 => ((laws_toTable.f k x318000).bind fun t368 => ((impl_TurnsOf.f k bt363.1 bt363.2.1 bt363.2.2 t368).bind fun t371 => ((laws_eqIntS.f k t371 x6).bind fun t374 => (if t374 = true then ((laws_heldIntS.f k bt360.2 1).bind fun t375 => (if t375 < 0 then (some false) else (if t375 = bt360.1 then (some true) else (some false)))) else (some false)))))) else (some false)))))
def laws_FnExactTurnsOf.f (k : Nat) (a0_0 : Int) (a0_1 : Int) (l0_2 : List Int) (l1_0 : List Int) : Option (Bool) := (laws_szMesh.f a0_0 a0_1 l0_2 1048576).bind fun t318 => (if t318 < 0 then (some true) else ((laws_szTable.f l1_0 t318).bind fun t319 => (if t319 < 0 then (some true) else ((laws_toMesh.f k a0_0 a0_1 l0_2).bind fun bt320 => ((laws_toTable.f k l1_0).bind fun t325 => ((spec_TurnsOf.f k bt320.1 bt320.2.1 bt320.2.2 t325).bind fun t328 => ((laws_toMesh.f k a0_0 a0_1 l0_2).bind fun bt331 => ((laws_toTable.f k l1_0).bind fun t337 => ((impl_TurnsOf.f k bt331.1 bt331.2.1 bt331.2.2 t337).bind fun t341 => ((laws_eqIntS.f k t341 t328).bind fun t344 => (if t344 = true then ((laws_toMesh.f k a0_0 a0_1 l0_2).bind fun bt345 => ((laws_eqMesh.f k bt331.1 bt331.2.1 bt331.2.2 bt345.1 bt345.2.1 bt345.2.2).bind fun t350 => (if t350 = true then ((laws_toTable.f k l1_0).bind fun t351 => ((laws_eqTable.f k t337 t351).bind fun t354 => (if t354 = true then ((laws_markMesh.f k bt331.1 bt331.2.1 bt331.2.2 1).bind fun bt355 => ((laws_markTable.f k t337 bt355.1).bind fun bt357 => (if bt357.1 < 0 then (laws_FnExactTurnsOf.j0 k t328 t341 true a0_0 a0_1 l0_2 l1_0) else ((laws_eqIntS.f k t341 t328).bind fun t359 => (laws_FnExactTurnsOf.j0 k t328 t341 (!t359) a0_0 a0_1 l0_2 l1_0))))) else (some false)))) else (some false)))) else (some false))))))))))))
theorem laws_FnExactTurnsOf.mono_l : ∀ k, (∀ y0 y1 y2 y3 y4 y5 y6, LeO (laws_FnExactTurnsOf.j0 k y0 y1 y2 y3 y4 y5 y6) (laws_FnExactTurnsOf.j0 (k + 1) y0 y1 y2 y3 y4 y5 y6))
  | 0 => fun _ _ _ _ _ _ _ r h => by simp [laws_FnExactTurnsOf.j0] at h
  | k + 1 => by
    have ih0 := laws_FnExactTurnsOf.mono_l k
    · intro y0 y1 y2 y3 y4 y5 y6
      unfold laws_FnExactTurnsOf.j0
      repeat' first
      | (with_reducible exact ih0 _ _ _ _ _ _ _)
      | (with_reducible exact impl_TurnsOf.mono _ _ _ _ _)
      | (with_reducible exact laws_eqIntS.mono _ _ _)
      | (with_reducible exact laws_eqMesh.mono _ _ _ _ _ _ _)
      | (with_reducible exact laws_eqTable.mono _ _ _)
      | (with_reducible exact laws_heldIntS.mono _ _ _)
      | (with_reducible exact laws_markIntS.mono _ _ _)
      | (with_reducible exact laws_markMesh.mono _ _ _ _ _)
      | (with_reducible exact laws_markTable.mono _ _ _)
      | (with_reducible exact laws_toMesh.mono _ _ _ _)
      | (with_reducible exact laws_toTable.mono _ _)
      | (with_reducible exact spec_TurnsOf.mono _ _ _ _ _)
      | (with_reducible exact LeO.refl _)
      | (with_reducible exact LeO.none _)
      | (with_reducible refine LeO.ite ?_ ?_)
      | (with_reducible refine LeO.bind ?_ (fun _ => ?_))
      | exact ih0 _ _ _ _ _ _ _
      | exact impl_TurnsOf.mono _ _ _ _ _
      | exact laws_eqIntS.mono _ _ _
      | exact laws_eqMesh.mono _ _ _ _ _ _ _
      | exact laws_eqTable.mono _ _ _
      | exact laws_heldIntS.mono _ _ _
      | exact laws_markIntS.mono _ _ _
      | exact laws_markMesh.mono _ _ _ _ _
      | exact laws_markTable.mono _ _ _
      | exact laws_toMesh.mono _ _ _ _
      | exact laws_toTable.mono _ _
      | exact spec_TurnsOf.mono _ _ _ _ _
      | exact LeO.none _
      | refine LeO.ite ?_ ?_
      | refine LeO.bind ?_ (fun _ => ?_)
theorem laws_FnExactTurnsOf.mono : ∀ a0 a1 a2 a3 k, LeO (laws_FnExactTurnsOf.f k a0 a1 a2 a3) (laws_FnExactTurnsOf.f (k + 1) a0 a1 a2 a3) := by
  intro a0 a1 a2 a3 k
  have ih0 := laws_FnExactTurnsOf.mono_l k
  unfold laws_FnExactTurnsOf.f
  repeat' first
      | (with_reducible exact ih0 _ _ _ _ _ _ _)
      | (with_reducible exact impl_TurnsOf.mono _ _ _ _ _)
      | (with_reducible exact laws_eqIntS.mono _ _ _)
      | (with_reducible exact laws_eqMesh.mono _ _ _ _ _ _ _)
      | (with_reducible exact laws_eqTable.mono _ _ _)
      | (with_reducible exact laws_heldIntS.mono _ _ _)
      | (with_reducible exact laws_markIntS.mono _ _ _)
      | (with_reducible exact laws_markMesh.mono _ _ _ _ _)
      | (with_reducible exact laws_markTable.mono _ _ _)
      | (with_reducible exact laws_toMesh.mono _ _ _ _)
      | (with_reducible exact laws_toTable.mono _ _)
      | (with_reducible exact spec_TurnsOf.mono _ _ _ _ _)
      | (with_reducible exact LeO.refl _)
      | (with_reducible exact LeO.none _)
      | (with_reducible refine LeO.ite ?_ ?_)
      | (with_reducible refine LeO.bind ?_ (fun _ => ?_))
      | exact ih0 _ _ _ _ _ _ _
      | exact impl_TurnsOf.mono _ _ _ _ _
      | exact laws_eqIntS.mono _ _ _
      | exact laws_eqMesh.mono _ _ _ _ _ _ _
      | exact laws_eqTable.mono _ _ _
      | exact laws_heldIntS.mono _ _ _
      | exact laws_markIntS.mono _ _ _
      | exact laws_markMesh.mono _ _ _ _ _
      | exact laws_markTable.mono _ _ _
      | exact laws_toMesh.mono _ _ _ _
      | exact laws_toTable.mono _ _
      | exact spec_TurnsOf.mono _ _ _ _ _
      | exact LeO.none _
      | refine LeO.ite ?_ ?_
      | refine LeO.bind ?_ (fun _ => ?_)
set_option maxHeartbeats 8000000 in
set_option maxRecDepth 100000 in
theorem laws_FnExactTurnsOf.calls (k : Nat) (a0_0 : Int) (a0_1 : Int) (A0_2 : Option Addr) (c0_2 : Nat) (l0_2 : List Int) (A1_0 : Option Addr) (c1_0 : Nat) (l1_0 : List Int) (r : Bool) (w : World) (hr0_2 : Kd.C (Kd.int .i64) w A0_2 l0_2.length l0_2) (hc0_2 : l0_2.length ≤ c0_2) (hr1_0 : Kd.C (Kd.int .i64) w A1_0 l1_0.length l1_0) (hc1_0 : l1_0.length ≤ c1_0) (hrt0 : r = true) (h : laws_FnExactTurnsOf.f k a0_0 a0_1 l0_2 l1_0 = some r) :
    Calls Try.prog 4 #[.agg #[.int .i64 a0_0, .int .i64 a0_1, .slice A0_2 l0_2.length c0_2], .agg #[.slice A1_0 l1_0.length c1_0]] w fun e w' => e = .returned (.bool r) ∧ Below w.heap.size w w' := by
  have hu26 := Try.underlying26
  have hu28 := Try.underlying28
  have hu34 := Try.underlying34
  have hu36 := Try.underlying36
  have HRT := Aside0.mk hrt0
  clear hrt0
  have HR0_2 := Aside0.mk hr0_2
  have HC0_2 := Aside0.mk hc0_2
  clear hr0_2 hc0_2
  have HR1_0 := Aside0.mk hr1_0
  have HC1_0 := Aside0.mk hc1_0
  clear hr1_0 hc1_0
  have HB := Aside0.mk (Below.refl w.heap.size w)
  have H : ((laws_szMesh.f a0_0 a0_1 l0_2 1048576).bind fun t318 => (if t318 < 0 then (some true) else ((laws_szTable.f l1_0 t318).bind fun t319 => (if t319 < 0 then (some true) else ((laws_toMesh.f k a0_0 a0_1 l0_2).bind fun bt320 => ((laws_toTable.f k l1_0).bind fun t325 => ((spec_TurnsOf.f k bt320.1 bt320.2.1 bt320.2.2 t325).bind fun t328 => ((laws_toMesh.f k a0_0 a0_1 l0_2).bind fun bt331 => ((laws_toTable.f k l1_0).bind fun t337 => ((impl_TurnsOf.f k bt331.1 bt331.2.1 bt331.2.2 t337).bind fun t341 => ((laws_eqIntS.f k t341 t328).bind fun t344 => (if t344 = true then ((laws_toMesh.f k a0_0 a0_1 l0_2).bind fun bt345 => ((laws_eqMesh.f k bt331.1 bt331.2.1 bt331.2.2 bt345.1 bt345.2.1 bt345.2.2).bind fun t350 => (if t350 = true then ((laws_toTable.f k l1_0).bind fun t351 => ((laws_eqTable.f k t337 t351).bind fun t354 => (if t354 = true then ((laws_markMesh.f k bt331.1 bt331.2.1 bt331.2.2 1).bind fun bt355 => ((laws_markTable.f k t337 bt355.1).bind fun bt357 => (if bt357.1 < 0 then (laws_FnExactTurnsOf.j0 k t328 t341 true a0_0 a0_1 l0_2 l1_0) else ((laws_eqIntS.f k t341 t328).bind fun t359 => (laws_FnExactTurnsOf.j0 k t328 t341 (!t359) a0_0 a0_1 l0_2 l1_0))))) else (some false)))) else (some false)))) else (some false))))))))))))) = some r := h
  clear h
  replace H := Option.bind_eq_some_iff.mp H
  obtain ⟨t318, A30, H⟩ := H
  replace H : (if t318 < 0 then (some true) else ((laws_szTable.f l1_0 t318).bind fun t319 => (if t319 < 0 then (some true) else ((laws_toMesh.f k a0_0 a0_1 l0_2).bind fun bt320 => ((laws_toTable.f k l1_0).bind fun t325 => ((spec_TurnsOf.f k bt320.1 bt320.2.1 bt320.2.2 t325).bind fun t328 => ((laws_toMesh.f k a0_0 a0_1 l0_2).bind fun bt331 => ((laws_toTable.f k l1_0).bind fun t337 => ((impl_TurnsOf.f k bt331.1 bt331.2.1 bt331.2.2 t337).bind fun t341 => ((laws_eqIntS.f k t341 t328).bind fun t344 => (if t344 = true then ((laws_toMesh.f k a0_0 a0_1 l0_2).bind fun bt345 => ((laws_eqMesh.f k bt331.1 bt331.2.1 bt331.2.2 bt345.1 bt345.2.1 bt345.2.2).bind fun t350 => (if t350 = true then ((laws_toTable.f k l1_0).bind fun t351 => ((laws_eqTable.f k t337 t351).bind fun t354 => (if t354 = true then ((laws_markMesh.f k bt331.1 bt331.2.1 bt331.2.2 1).bind fun bt355 => ((laws_markTable.f k t337 bt355.1).bind fun bt357 => (if bt357.1 < 0 then (laws_FnExactTurnsOf.j0 k t328 t341 true a0_0 a0_1 l0_2 l1_0) else ((laws_eqIntS.f k t341 t328).bind fun t359 => (laws_FnExactTurnsOf.j0 k t328 t341 (!t359) a0_0 a0_1 l0_2 l1_0))))) else (some false)))) else (some false)))) else (some false)))))))))))) = some r := H
  have A3 := Aside0.mk A30
  clear A30
  by_cases c4 : t318 < 0
  · rw [if_pos c4] at H
    have c4b0 : decide (t318 < 0) = true := decide_eq_true c4
    clear c4
    obtain rfl := Option.some.inj H
    go_enter Try.func4, Try.ntmps4
    go_wp2_with (first | ((with_reducible refine gate_dst (N := 2) rfl ?_); refine box_event ?hg (N := 2) ?hd (cs := #[.int .i64 a0_0, .int .i64 a0_1, .slice A0_2 l0_2.length c0_2]) (t := 26) ?hr ?_; (case hd => rfl); (case hg => rfl); (case hr => first | (go_simp; done) | (go_simp; rfl)); intro gb316 hg w5 hbox hb; have n0_ := Aside0.mk (below_step (by repeat (first | (with_reducible first | exact HB.out | apply below_alloc | apply pw_below_drewN | apply below_drew1) | exact HB.out)) hb); have n1_ := Aside0.mk (hbox); have n2_ := Aside0.mk ((by rw [hg]; exact (below_size (by repeat (first | (with_reducible first | exact HB.out | apply below_alloc | apply pw_below_drewN | apply below_drew1) | exact HB.out))) : w.heap.size ≤ gb316)); have n3_ := Aside0.mk ((by rw [hg]; exact (below_size (by repeat (first | (with_reducible first | exact HB.out | apply below_alloc | apply pw_below_drewN | apply below_drew1) | exact HB.out))) : w.heap.size ≤ gb316)); clear HB; have HB := n0_; have BK316 := n1_; have GW316 := n2_; have GE316 := n3_; clear n0_ n1_ n2_ n3_; clear hb hbox hg) | ((with_reducible refine gate_dst (N := 3) rfl ?_); refine box_event ?hg (N := 3) ?hd (cs := #[.slice A1_0 l1_0.length c1_0]) (t := 28) ?hr ?_; (case hd => rfl); (case hg => rfl); (case hr => first | (go_simp; done) | (go_simp; rfl)); intro gb317 hg w6 hbox hb; have n0_ := Aside0.mk (blk_below (g := gb316) (o := .cells #[.int .i64 a0_0, .int .i64 a0_1, .slice A0_2 l0_2.length c0_2] 26 (0, 0)) (by (with_reducible repeat (first | refine blk_drewN ?_ _ | refine blk_drew ?_ | refine blk_alloc ?_ _)); exact BK316.out) hb); have n1_ := Aside0.mk (below_step (by repeat (first | (with_reducible first | exact HB.out | apply below_alloc | apply pw_below_drewN | apply below_drew1 | refine below_set ?_ GE316.out) | exact HB.out)) hb); have n2_ := Aside0.mk (hbox); have n3_ := Aside0.mk ((by rw [hg]; exact (below_size (by repeat (first | (with_reducible first | exact HB.out | apply below_alloc | apply pw_below_drewN | apply below_drew1 | refine below_set ?_ GE316.out) | exact HB.out))) : w.heap.size ≤ gb317)); have n4_ := Aside0.mk ((by rw [hg]; exact (below_size (by repeat (first | (with_reducible first | exact HB.out | apply below_alloc | apply pw_below_drewN | apply below_drew1 | refine below_set ?_ GE316.out) | exact HB.out))) : w.heap.size ≤ gb317)); have n5_ := Aside0.mk ((by rw [hg]; exact Nat.ne_of_lt (blk_lt (g := gb316) (o := .cells #[.int .i64 a0_0, .int .i64 a0_1, .slice A0_2 l0_2.length c0_2] 26 (0, 0)) (by (with_reducible repeat (first | refine blk_drewN ?_ _ | refine blk_drew ?_ | refine blk_alloc ?_ _)); exact BK316.out)) : gb316 ≠ gb317)); have n6_ := Aside0.mk ((by rw [hg]; exact Nat.ne_of_gt (blk_lt (g := gb316) (o := .cells #[.int .i64 a0_0, .int .i64 a0_1, .slice A0_2 l0_2.length c0_2] 26 (0, 0)) (by (with_reducible repeat (first | refine blk_drewN ?_ _ | refine blk_drew ?_ | refine blk_alloc ?_ _)); exact BK316.out)) : gb317 ≠ gb316)); clear BK316; clear HB; have BK316 := n0_; have HB := n1_; have BK317 := n2_; have GW317 := n3_; have GE317 := n4_; have NB316_317 := n5_; have NB317_316 := n6_; clear n0_ n1_ n2_ n3_ n4_ n5_ n6_; clear hb hbox hg; have hnb7 := NB316_317.out; have hnc7 := NB317_316.out; have hcz8_0 : w6.cell? ⟨gb316, 0, none⟩ = some (.int .i64 a0_0) := (blk_cell BK316.out 0).trans rfl; have hcz8_1 : w6.cell? ⟨gb316, 1, none⟩ = some (.int .i64 a0_1) := (blk_cell BK316.out 1).trans rfl; have hcz8_2 : w6.cell? ⟨gb316, 2, none⟩ = some (.slice A0_2 l0_2.length c0_2) := (blk_cell BK316.out 2).trans rfl; have hfz8_0 := blk_frozen BK316.out 0; have hfz8_1 := blk_frozen BK316.out 1; have hfz8_2 := blk_frozen BK316.out 2) | ((with_reducible refine gate_callee (f := 15) rfl ?_); refine goesL_ (some 16) rfl rfl Try.func15 (by kernel_rfl) rfl #[.agg #[.int .i64 a0_0, .int .i64 a0_1, .slice A0_2 l0_2.length c0_2], .int .i64 1048576] rfl (by (try simp only [List.map_toArray, List.map_cons, List.map_nil]); first | done | rfl | (simp only [List.length_drop, List.length_take]; rfl)) ?_; (with_reducible refine (laws_szMesh.calls a0_0 a0_1 _ _ l0_2 1048576 t318 _ ?side1 ?side2 A3.out).mono ?_); (case side1 => repeat (first | exact (Kd.C_below HR0_2.out HB.out) | (with_reducible refine Kd.C_alloc ?_ _) | (with_reducible refine Kd.C_drewN ?_ _) | (with_reducible refine Kd.C_drew ?_))); (case side2 => exact HC0_2.out); rintro e w9 ⟨rfl, hb⟩; refine ⟨_, rfl, ?_⟩; have n0_ := Aside0.mk (blk_below (g := gb316) (o := .cells #[.int .i64 a0_0, .int .i64 a0_1, .slice A0_2 l0_2.length c0_2] 26 (0, 0)) (by (with_reducible repeat (first | refine blk_drewN ?_ _ | refine blk_drew ?_ | refine blk_alloc ?_ _)); exact BK316.out) hb); have n1_ := Aside0.mk (blk_below (g := gb317) (o := .cells #[.slice A1_0 l1_0.length c1_0] 28 (0, 0)) (by (with_reducible repeat (first | refine blk_drewN ?_ _ | refine blk_drew ?_ | refine blk_alloc ?_ _)); exact BK317.out) hb); have n2_ := Aside0.mk (below_step (by repeat (first | (with_reducible first | exact HB.out | apply below_alloc | apply pw_below_drewN | apply below_drew1 | refine below_set ?_ GE316.out | refine below_set ?_ GE317.out) | exact HB.out)) hb); clear BK316; clear BK317; clear HB; have BK316 := n0_; have BK317 := n1_; have HB := n2_; clear n0_ n1_ n2_; (try clear hb); (try clear hb2); (try clear hk); (try clear hi)))
    go_ret
    exact ⟨by first | rfl | (simp [errW_none, errW_some] <;> rfl) | (simp [*, errW_none, errW_some] <;> rfl), by repeat (first | (with_reducible first | exact HB.out | apply below_alloc | apply pw_below_drewN | apply below_drew1 | refine below_set ?_ GE316.out | refine below_set ?_ GE317.out) | exact HB.out)⟩
  · rw [if_neg c4] at H
    have c4b0 : decide (t318 < 0) = false := decide_eq_false c4
    clear c4
    replace H := Option.bind_eq_some_iff.mp H
    obtain ⟨t319, A100, H⟩ := H
    replace H : (if t319 < 0 then (some true) else ((laws_toMesh.f k a0_0 a0_1 l0_2).bind fun bt320 => ((laws_toTable.f k l1_0).bind fun t325 => ((spec_TurnsOf.f k bt320.1 bt320.2.1 bt320.2.2 t325).bind fun t328 => ((laws_toMesh.f k a0_0 a0_1 l0_2).bind fun bt331 => ((laws_toTable.f k l1_0).bind fun t337 => ((impl_TurnsOf.f k bt331.1 bt331.2.1 bt331.2.2 t337).bind fun t341 => ((laws_eqIntS.f k t341 t328).bind fun t344 => (if t344 = true then ((laws_toMesh.f k a0_0 a0_1 l0_2).bind fun bt345 => ((laws_eqMesh.f k bt331.1 bt331.2.1 bt331.2.2 bt345.1 bt345.2.1 bt345.2.2).bind fun t350 => (if t350 = true then ((laws_toTable.f k l1_0).bind fun t351 => ((laws_eqTable.f k t337 t351).bind fun t354 => (if t354 = true then ((laws_markMesh.f k bt331.1 bt331.2.1 bt331.2.2 1).bind fun bt355 => ((laws_markTable.f k t337 bt355.1).bind fun bt357 => (if bt357.1 < 0 then (laws_FnExactTurnsOf.j0 k t328 t341 true a0_0 a0_1 l0_2 l1_0) else ((laws_eqIntS.f k t341 t328).bind fun t359 => (laws_FnExactTurnsOf.j0 k t328 t341 (!t359) a0_0 a0_1 l0_2 l1_0))))) else (some false)))) else (some false)))) else (some false)))))))))) = some r := H
    have A10 := Aside0.mk A100
    clear A100
    by_cases c11 : t319 < 0
    · rw [if_pos c11] at H
      have c11b0 : decide (t319 < 0) = true := decide_eq_true c11
      clear c11
      obtain rfl := Option.some.inj H
      go_enter Try.func4, Try.ntmps4
      go_wp2_with (first | ((with_reducible refine gate_dst (N := 2) rfl ?_); refine box_event ?hg (N := 2) ?hd (cs := #[.int .i64 a0_0, .int .i64 a0_1, .slice A0_2 l0_2.length c0_2]) (t := 26) ?hr ?_; (case hd => rfl); (case hg => rfl); (case hr => first | (go_simp; done) | (go_simp; rfl)); intro gb316 hg w12 hbox hb; have n0_ := Aside0.mk (below_step (by repeat (first | (with_reducible first | exact HB.out | apply below_alloc | apply pw_below_drewN | apply below_drew1) | exact HB.out)) hb); have n1_ := Aside0.mk (hbox); have n2_ := Aside0.mk ((by rw [hg]; exact (below_size (by repeat (first | (with_reducible first | exact HB.out | apply below_alloc | apply pw_below_drewN | apply below_drew1) | exact HB.out))) : w.heap.size ≤ gb316)); have n3_ := Aside0.mk ((by rw [hg]; exact (below_size (by repeat (first | (with_reducible first | exact HB.out | apply below_alloc | apply pw_below_drewN | apply below_drew1) | exact HB.out))) : w.heap.size ≤ gb316)); clear HB; have HB := n0_; have BK316 := n1_; have GW316 := n2_; have GE316 := n3_; clear n0_ n1_ n2_ n3_; clear hb hbox hg) | ((with_reducible refine gate_dst (N := 3) rfl ?_); refine box_event ?hg (N := 3) ?hd (cs := #[.slice A1_0 l1_0.length c1_0]) (t := 28) ?hr ?_; (case hd => rfl); (case hg => rfl); (case hr => first | (go_simp; done) | (go_simp; rfl)); intro gb317 hg w13 hbox hb; have n0_ := Aside0.mk (blk_below (g := gb316) (o := .cells #[.int .i64 a0_0, .int .i64 a0_1, .slice A0_2 l0_2.length c0_2] 26 (0, 0)) (by (with_reducible repeat (first | refine blk_drewN ?_ _ | refine blk_drew ?_ | refine blk_alloc ?_ _)); exact BK316.out) hb); have n1_ := Aside0.mk (below_step (by repeat (first | (with_reducible first | exact HB.out | apply below_alloc | apply pw_below_drewN | apply below_drew1 | refine below_set ?_ GE316.out) | exact HB.out)) hb); have n2_ := Aside0.mk (hbox); have n3_ := Aside0.mk ((by rw [hg]; exact (below_size (by repeat (first | (with_reducible first | exact HB.out | apply below_alloc | apply pw_below_drewN | apply below_drew1 | refine below_set ?_ GE316.out) | exact HB.out))) : w.heap.size ≤ gb317)); have n4_ := Aside0.mk ((by rw [hg]; exact (below_size (by repeat (first | (with_reducible first | exact HB.out | apply below_alloc | apply pw_below_drewN | apply below_drew1 | refine below_set ?_ GE316.out) | exact HB.out))) : w.heap.size ≤ gb317)); have n5_ := Aside0.mk ((by rw [hg]; exact Nat.ne_of_lt (blk_lt (g := gb316) (o := .cells #[.int .i64 a0_0, .int .i64 a0_1, .slice A0_2 l0_2.length c0_2] 26 (0, 0)) (by (with_reducible repeat (first | refine blk_drewN ?_ _ | refine blk_drew ?_ | refine blk_alloc ?_ _)); exact BK316.out)) : gb316 ≠ gb317)); have n6_ := Aside0.mk ((by rw [hg]; exact Nat.ne_of_gt (blk_lt (g := gb316) (o := .cells #[.int .i64 a0_0, .int .i64 a0_1, .slice A0_2 l0_2.length c0_2] 26 (0, 0)) (by (with_reducible repeat (first | refine blk_drewN ?_ _ | refine blk_drew ?_ | refine blk_alloc ?_ _)); exact BK316.out)) : gb317 ≠ gb316)); clear BK316; clear HB; have BK316 := n0_; have HB := n1_; have BK317 := n2_; have GW317 := n3_; have GE317 := n4_; have NB316_317 := n5_; have NB317_316 := n6_; clear n0_ n1_ n2_ n3_ n4_ n5_ n6_; clear hb hbox hg; have hnb14 := NB316_317.out; have hnc14 := NB317_316.out; have hcz15_0 : w13.cell? ⟨gb316, 0, none⟩ = some (.int .i64 a0_0) := (blk_cell BK316.out 0).trans rfl; have hcz15_1 : w13.cell? ⟨gb316, 1, none⟩ = some (.int .i64 a0_1) := (blk_cell BK316.out 1).trans rfl; have hcz15_2 : w13.cell? ⟨gb316, 2, none⟩ = some (.slice A0_2 l0_2.length c0_2) := (blk_cell BK316.out 2).trans rfl; have hfz15_0 := blk_frozen BK316.out 0; have hfz15_1 := blk_frozen BK316.out 1; have hfz15_2 := blk_frozen BK316.out 2) | ((with_reducible refine gate_callee (f := 15) rfl ?_); refine goesL_ (some 16) rfl rfl Try.func15 (by kernel_rfl) rfl #[.agg #[.int .i64 a0_0, .int .i64 a0_1, .slice A0_2 l0_2.length c0_2], .int .i64 1048576] rfl (by (try simp only [List.map_toArray, List.map_cons, List.map_nil]); first | done | rfl | (simp only [List.length_drop, List.length_take]; rfl)) ?_; (with_reducible refine (laws_szMesh.calls a0_0 a0_1 _ _ l0_2 1048576 t318 _ ?side1 ?side2 A3.out).mono ?_); (case side1 => repeat (first | exact (Kd.C_below HR0_2.out HB.out) | (with_reducible refine Kd.C_alloc ?_ _) | (with_reducible refine Kd.C_drewN ?_ _) | (with_reducible refine Kd.C_drew ?_))); (case side2 => exact HC0_2.out); rintro e w16 ⟨rfl, hb⟩; refine ⟨_, rfl, ?_⟩; have n0_ := Aside0.mk (blk_below (g := gb316) (o := .cells #[.int .i64 a0_0, .int .i64 a0_1, .slice A0_2 l0_2.length c0_2] 26 (0, 0)) (by (with_reducible repeat (first | refine blk_drewN ?_ _ | refine blk_drew ?_ | refine blk_alloc ?_ _)); exact BK316.out) hb); have n1_ := Aside0.mk (blk_below (g := gb317) (o := .cells #[.slice A1_0 l1_0.length c1_0] 28 (0, 0)) (by (with_reducible repeat (first | refine blk_drewN ?_ _ | refine blk_drew ?_ | refine blk_alloc ?_ _)); exact BK317.out) hb); have n2_ := Aside0.mk (below_step (by repeat (first | (with_reducible first | exact HB.out | apply below_alloc | apply pw_below_drewN | apply below_drew1 | refine below_set ?_ GE316.out | refine below_set ?_ GE317.out) | exact HB.out)) hb); clear BK316; clear BK317; clear HB; have BK316 := n0_; have BK317 := n1_; have HB := n2_; clear n0_ n1_ n2_; (try clear hb); (try clear hb2); (try clear hk); (try clear hi); have hcz17_0 : w16.cell? ⟨gb317, 0, none⟩ = some (.slice A1_0 l1_0.length c1_0) := (blk_cell BK317.out 0).trans rfl; have hfz17_0 := blk_frozen BK317.out 0) | ((with_reducible refine gate_callee (f := 16) rfl ?_); refine goesL_ (some 21) rfl rfl Try.func16 (by kernel_rfl) rfl #[.agg #[.slice A1_0 l1_0.length c1_0], .int .i64 t318] rfl (by (try simp only [List.map_toArray, List.map_cons, List.map_nil]); first | done | rfl | (simp only [List.length_drop, List.length_take]; rfl)) ?_; (with_reducible refine (laws_szTable.calls _ _ l1_0 t318 t319 _ ?side1 ?side2 A10.out).mono ?_); (case side1 => repeat (first | exact (Kd.C_below HR1_0.out HB.out) | (with_reducible refine Kd.C_alloc ?_ _) | (with_reducible refine Kd.C_drewN ?_ _) | (with_reducible refine Kd.C_drew ?_))); (case side2 => exact HC1_0.out); rintro e w18 ⟨rfl, hb⟩; refine ⟨_, rfl, ?_⟩; have n0_ := Aside0.mk (blk_below (g := gb316) (o := .cells #[.int .i64 a0_0, .int .i64 a0_1, .slice A0_2 l0_2.length c0_2] 26 (0, 0)) (by (with_reducible repeat (first | refine blk_drewN ?_ _ | refine blk_drew ?_ | refine blk_alloc ?_ _)); exact BK316.out) hb); have n1_ := Aside0.mk (blk_below (g := gb317) (o := .cells #[.slice A1_0 l1_0.length c1_0] 28 (0, 0)) (by (with_reducible repeat (first | refine blk_drewN ?_ _ | refine blk_drew ?_ | refine blk_alloc ?_ _)); exact BK317.out) hb); have n2_ := Aside0.mk (below_step (by repeat (first | (with_reducible first | exact HB.out | apply below_alloc | apply pw_below_drewN | apply below_drew1 | refine below_set ?_ GE316.out | refine below_set ?_ GE317.out) | exact HB.out)) hb); clear BK316; clear BK317; clear HB; have BK316 := n0_; have BK317 := n1_; have HB := n2_; clear n0_ n1_ n2_; (try clear hb); (try clear hb2); (try clear hk); (try clear hi)))
      go_ret
      exact ⟨by first | rfl | (simp [errW_none, errW_some] <;> rfl) | (simp [*, errW_none, errW_some] <;> rfl), by repeat (first | (with_reducible first | exact HB.out | apply below_alloc | apply pw_below_drewN | apply below_drew1 | refine below_set ?_ GE316.out | refine below_set ?_ GE317.out) | exact HB.out)⟩
    · rw [if_neg c11] at H
      have c11b0 : decide (t319 < 0) = false := decide_eq_false c11
      clear c11
      replace H := Option.bind_eq_some_iff.mp H
      obtain ⟨⟨t320, t321, t322⟩, A190, H⟩ := H
      replace H : ((laws_toTable.f k l1_0).bind fun t325 => ((spec_TurnsOf.f k t320 t321 t322 t325).bind fun t328 => ((laws_toMesh.f k a0_0 a0_1 l0_2).bind fun bt331 => ((laws_toTable.f k l1_0).bind fun t337 => ((impl_TurnsOf.f k bt331.1 bt331.2.1 bt331.2.2 t337).bind fun t341 => ((laws_eqIntS.f k t341 t328).bind fun t344 => (if t344 = true then ((laws_toMesh.f k a0_0 a0_1 l0_2).bind fun bt345 => ((laws_eqMesh.f k bt331.1 bt331.2.1 bt331.2.2 bt345.1 bt345.2.1 bt345.2.2).bind fun t350 => (if t350 = true then ((laws_toTable.f k l1_0).bind fun t351 => ((laws_eqTable.f k t337 t351).bind fun t354 => (if t354 = true then ((laws_markMesh.f k bt331.1 bt331.2.1 bt331.2.2 1).bind fun bt355 => ((laws_markTable.f k t337 bt355.1).bind fun bt357 => (if bt357.1 < 0 then (laws_FnExactTurnsOf.j0 k t328 t341 true a0_0 a0_1 l0_2 l1_0) else ((laws_eqIntS.f k t341 t328).bind fun t359 => (laws_FnExactTurnsOf.j0 k t328 t341 (!t359) a0_0 a0_1 l0_2 l1_0))))) else (some false)))) else (some false)))) else (some false)))))))) = some r := H
      have A19 := Aside0.mk A190
      clear A190
      replace H := Option.bind_eq_some_iff.mp H
      obtain ⟨t325, A200, H⟩ := H
      replace H : ((spec_TurnsOf.f k t320 t321 t322 t325).bind fun t328 => ((laws_toMesh.f k a0_0 a0_1 l0_2).bind fun bt331 => ((laws_toTable.f k l1_0).bind fun t337 => ((impl_TurnsOf.f k bt331.1 bt331.2.1 bt331.2.2 t337).bind fun t341 => ((laws_eqIntS.f k t341 t328).bind fun t344 => (if t344 = true then ((laws_toMesh.f k a0_0 a0_1 l0_2).bind fun bt345 => ((laws_eqMesh.f k bt331.1 bt331.2.1 bt331.2.2 bt345.1 bt345.2.1 bt345.2.2).bind fun t350 => (if t350 = true then ((laws_toTable.f k l1_0).bind fun t351 => ((laws_eqTable.f k t337 t351).bind fun t354 => (if t354 = true then ((laws_markMesh.f k bt331.1 bt331.2.1 bt331.2.2 1).bind fun bt355 => ((laws_markTable.f k t337 bt355.1).bind fun bt357 => (if bt357.1 < 0 then (laws_FnExactTurnsOf.j0 k t328 t341 true a0_0 a0_1 l0_2 l1_0) else ((laws_eqIntS.f k t341 t328).bind fun t359 => (laws_FnExactTurnsOf.j0 k t328 t341 (!t359) a0_0 a0_1 l0_2 l1_0))))) else (some false)))) else (some false)))) else (some false))))))) = some r := H
      have A20 := Aside0.mk A200
      clear A200
      replace H := Option.bind_eq_some_iff.mp H
      obtain ⟨t328, A210, H⟩ := H
      replace H : ((laws_toMesh.f k a0_0 a0_1 l0_2).bind fun bt331 => ((laws_toTable.f k l1_0).bind fun t337 => ((impl_TurnsOf.f k bt331.1 bt331.2.1 bt331.2.2 t337).bind fun t341 => ((laws_eqIntS.f k t341 t328).bind fun t344 => (if t344 = true then ((laws_toMesh.f k a0_0 a0_1 l0_2).bind fun bt345 => ((laws_eqMesh.f k bt331.1 bt331.2.1 bt331.2.2 bt345.1 bt345.2.1 bt345.2.2).bind fun t350 => (if t350 = true then ((laws_toTable.f k l1_0).bind fun t351 => ((laws_eqTable.f k t337 t351).bind fun t354 => (if t354 = true then ((laws_markMesh.f k bt331.1 bt331.2.1 bt331.2.2 1).bind fun bt355 => ((laws_markTable.f k t337 bt355.1).bind fun bt357 => (if bt357.1 < 0 then (laws_FnExactTurnsOf.j0 k t328 t341 true a0_0 a0_1 l0_2 l1_0) else ((laws_eqIntS.f k t341 t328).bind fun t359 => (laws_FnExactTurnsOf.j0 k t328 t341 (!t359) a0_0 a0_1 l0_2 l1_0))))) else (some false)))) else (some false)))) else (some false)))))) = some r := H
      have A21 := Aside0.mk A210
      clear A210
      replace H := Option.bind_eq_some_iff.mp H
      obtain ⟨⟨t331, t332, t333⟩, A220, H⟩ := H
      replace H : ((laws_toTable.f k l1_0).bind fun t337 => ((impl_TurnsOf.f k t331 t332 t333 t337).bind fun t341 => ((laws_eqIntS.f k t341 t328).bind fun t344 => (if t344 = true then ((laws_toMesh.f k a0_0 a0_1 l0_2).bind fun bt345 => ((laws_eqMesh.f k t331 t332 t333 bt345.1 bt345.2.1 bt345.2.2).bind fun t350 => (if t350 = true then ((laws_toTable.f k l1_0).bind fun t351 => ((laws_eqTable.f k t337 t351).bind fun t354 => (if t354 = true then ((laws_markMesh.f k t331 t332 t333 1).bind fun bt355 => ((laws_markTable.f k t337 bt355.1).bind fun bt357 => (if bt357.1 < 0 then (laws_FnExactTurnsOf.j0 k t328 t341 true a0_0 a0_1 l0_2 l1_0) else ((laws_eqIntS.f k t341 t328).bind fun t359 => (laws_FnExactTurnsOf.j0 k t328 t341 (!t359) a0_0 a0_1 l0_2 l1_0))))) else (some false)))) else (some false)))) else (some false))))) = some r := H
      have A22 := Aside0.mk A220
      clear A220
      replace H := Option.bind_eq_some_iff.mp H
      obtain ⟨t337, A230, H⟩ := H
      replace H : ((impl_TurnsOf.f k t331 t332 t333 t337).bind fun t341 => ((laws_eqIntS.f k t341 t328).bind fun t344 => (if t344 = true then ((laws_toMesh.f k a0_0 a0_1 l0_2).bind fun bt345 => ((laws_eqMesh.f k t331 t332 t333 bt345.1 bt345.2.1 bt345.2.2).bind fun t350 => (if t350 = true then ((laws_toTable.f k l1_0).bind fun t351 => ((laws_eqTable.f k t337 t351).bind fun t354 => (if t354 = true then ((laws_markMesh.f k t331 t332 t333 1).bind fun bt355 => ((laws_markTable.f k t337 bt355.1).bind fun bt357 => (if bt357.1 < 0 then (laws_FnExactTurnsOf.j0 k t328 t341 true a0_0 a0_1 l0_2 l1_0) else ((laws_eqIntS.f k t341 t328).bind fun t359 => (laws_FnExactTurnsOf.j0 k t328 t341 (!t359) a0_0 a0_1 l0_2 l1_0))))) else (some false)))) else (some false)))) else (some false)))) = some r := H
      have A23 := Aside0.mk A230
      clear A230
      replace H := Option.bind_eq_some_iff.mp H
      obtain ⟨t341, A240, H⟩ := H
      replace H : ((laws_eqIntS.f k t341 t328).bind fun t344 => (if t344 = true then ((laws_toMesh.f k a0_0 a0_1 l0_2).bind fun bt345 => ((laws_eqMesh.f k t331 t332 t333 bt345.1 bt345.2.1 bt345.2.2).bind fun t350 => (if t350 = true then ((laws_toTable.f k l1_0).bind fun t351 => ((laws_eqTable.f k t337 t351).bind fun t354 => (if t354 = true then ((laws_markMesh.f k t331 t332 t333 1).bind fun bt355 => ((laws_markTable.f k t337 bt355.1).bind fun bt357 => (if bt357.1 < 0 then (laws_FnExactTurnsOf.j0 k t328 t341 true a0_0 a0_1 l0_2 l1_0) else ((laws_eqIntS.f k t341 t328).bind fun t359 => (laws_FnExactTurnsOf.j0 k t328 t341 (!t359) a0_0 a0_1 l0_2 l1_0))))) else (some false)))) else (some false)))) else (some false))) = some r := H
      have A24 := Aside0.mk A240
      clear A240
      replace H := Option.bind_eq_some_iff.mp H
      obtain ⟨t344, A250, H⟩ := H
      replace H : (if t344 = true then ((laws_toMesh.f k a0_0 a0_1 l0_2).bind fun bt345 => ((laws_eqMesh.f k t331 t332 t333 bt345.1 bt345.2.1 bt345.2.2).bind fun t350 => (if t350 = true then ((laws_toTable.f k l1_0).bind fun t351 => ((laws_eqTable.f k t337 t351).bind fun t354 => (if t354 = true then ((laws_markMesh.f k t331 t332 t333 1).bind fun bt355 => ((laws_markTable.f k t337 bt355.1).bind fun bt357 => (if bt357.1 < 0 then (laws_FnExactTurnsOf.j0 k t328 t341 true a0_0 a0_1 l0_2 l1_0) else ((laws_eqIntS.f k t341 t328).bind fun t359 => (laws_FnExactTurnsOf.j0 k t328 t341 (!t359) a0_0 a0_1 l0_2 l1_0))))) else (some false)))) else (some false)))) else (some false)) = some r := H
      have A25 := Aside0.mk A250
      clear A250
      by_cases c26 : t344 = true
      · subst c26
        have H1 : ((laws_toMesh.f k a0_0 a0_1 l0_2).bind fun bt345 => ((laws_eqMesh.f k t331 t332 t333 bt345.1 bt345.2.1 bt345.2.2).bind fun t350 => (if t350 = true then ((laws_toTable.f k l1_0).bind fun t351 => ((laws_eqTable.f k t337 t351).bind fun t354 => (if t354 = true then ((laws_markMesh.f k t331 t332 t333 1).bind fun bt355 => ((laws_markTable.f k t337 bt355.1).bind fun bt357 => (if bt357.1 < 0 then (laws_FnExactTurnsOf.j0 k t328 t341 true a0_0 a0_1 l0_2 l1_0) else ((laws_eqIntS.f k t341 t328).bind fun t359 => (laws_FnExactTurnsOf.j0 k t328 t341 (!t359) a0_0 a0_1 l0_2 l1_0))))) else (some false)))) else (some false)))) = some r := by rw [if_pos rfl] at H; exact H
        clear H
        have H := H1
        clear H1
        replace H := Option.bind_eq_some_iff.mp H
        obtain ⟨⟨t345, t346, t347⟩, A270, H⟩ := H
        replace H : ((laws_eqMesh.f k t331 t332 t333 t345 t346 t347).bind fun t350 => (if t350 = true then ((laws_toTable.f k l1_0).bind fun t351 => ((laws_eqTable.f k t337 t351).bind fun t354 => (if t354 = true then ((laws_markMesh.f k t331 t332 t333 1).bind fun bt355 => ((laws_markTable.f k t337 bt355.1).bind fun bt357 => (if bt357.1 < 0 then (laws_FnExactTurnsOf.j0 k t328 t341 true a0_0 a0_1 l0_2 l1_0) else ((laws_eqIntS.f k t341 t328).bind fun t359 => (laws_FnExactTurnsOf.j0 k t328 t341 (!t359) a0_0 a0_1 l0_2 l1_0))))) else (some false)))) else (some false))) = some r := H
        have A27 := Aside0.mk A270
        clear A270
        replace H := Option.bind_eq_some_iff.mp H
        obtain ⟨t350, A280, H⟩ := H
        replace H : (if t350 = true then ((laws_toTable.f k l1_0).bind fun t351 => ((laws_eqTable.f k t337 t351).bind fun t354 => (if t354 = true then ((laws_markMesh.f k t331 t332 t333 1).bind fun bt355 => ((laws_markTable.f k t337 bt355.1).bind fun bt357 => (if bt357.1 < 0 then (laws_FnExactTurnsOf.j0 k t328 t341 true a0_0 a0_1 l0_2 l1_0) else ((laws_eqIntS.f k t341 t328).bind fun t359 => (laws_FnExactTurnsOf.j0 k t328 t341 (!t359) a0_0 a0_1 l0_2 l1_0))))) else (some false)))) else (some false)) = some r := H
        have A28 := Aside0.mk A280
        clear A280
        by_cases c29 : t350 = true
        · subst c29
          have H1 : ((laws_toTable.f k l1_0).bind fun t351 => ((laws_eqTable.f k t337 t351).bind fun t354 => (if t354 = true then ((laws_markMesh.f k t331 t332 t333 1).bind fun bt355 => ((laws_markTable.f k t337 bt355.1).bind fun bt357 => (if bt357.1 < 0 then (laws_FnExactTurnsOf.j0 k t328 t341 true a0_0 a0_1 l0_2 l1_0) else ((laws_eqIntS.f k t341 t328).bind fun t359 => (laws_FnExactTurnsOf.j0 k t328 t341 (!t359) a0_0 a0_1 l0_2 l1_0))))) else (some false)))) = some r := by rw [if_pos rfl] at H; exact H
          clear H
          have H := H1
          clear H1
          replace H := Option.bind_eq_some_iff.mp H
          obtain ⟨t351, A300, H⟩ := H
          replace H : ((laws_eqTable.f k t337 t351).bind fun t354 => (if t354 = true then ((laws_markMesh.f k t331 t332 t333 1).bind fun bt355 => ((laws_markTable.f k t337 bt355.1).bind fun bt357 => (if bt357.1 < 0 then (laws_FnExactTurnsOf.j0 k t328 t341 true a0_0 a0_1 l0_2 l1_0) else ((laws_eqIntS.f k t341 t328).bind fun t359 => (laws_FnExactTurnsOf.j0 k t328 t341 (!t359) a0_0 a0_1 l0_2 l1_0))))) else (some false))) = some r := H
          have A30 := Aside0.mk A300
          clear A300
          replace H := Option.bind_eq_some_iff.mp H
          obtain ⟨t354, A310, H⟩ := H
          replace H : (if t354 = true then ((laws_markMesh.f k t331 t332 t333 1).bind fun bt355 => ((laws_markTable.f k t337 bt355.1).bind fun bt357 => (if bt357.1 < 0 then (laws_FnExactTurnsOf.j0 k t328 t341 true a0_0 a0_1 l0_2 l1_0) else ((laws_eqIntS.f k t341 t328).bind fun t359 => (laws_FnExactTurnsOf.j0 k t328 t341 (!t359) a0_0 a0_1 l0_2 l1_0))))) else (some false)) = some r := H
          have A31 := Aside0.mk A310
          clear A310
          by_cases c32 : t354 = true
          · subst c32
            have H1 : ((laws_markMesh.f k t331 t332 t333 1).bind fun bt355 => ((laws_markTable.f k t337 bt355.1).bind fun bt357 => (if bt357.1 < 0 then (laws_FnExactTurnsOf.j0 k t328 t341 true a0_0 a0_1 l0_2 l1_0) else ((laws_eqIntS.f k t341 t328).bind fun t359 => (laws_FnExactTurnsOf.j0 k t328 t341 (!t359) a0_0 a0_1 l0_2 l1_0))))) = some r := by rw [if_pos rfl] at H; exact H
            clear H
            have H := H1
            clear H1
            replace H := Option.bind_eq_some_iff.mp H
            obtain ⟨⟨t355, t356⟩, A330, H⟩ := H
            replace H : ((laws_markTable.f k t337 t355).bind fun bt357 => (if bt357.1 < 0 then (laws_FnExactTurnsOf.j0 k t328 t341 true a0_0 a0_1 l0_2 l1_0) else ((laws_eqIntS.f k t341 t328).bind fun t359 => (laws_FnExactTurnsOf.j0 k t328 t341 (!t359) a0_0 a0_1 l0_2 l1_0)))) = some r := H
            have A33 := Aside0.mk A330
            clear A330
            replace H := Option.bind_eq_some_iff.mp H
            obtain ⟨⟨t357, t358⟩, A340, H⟩ := H
            replace H : (if t357 < 0 then (laws_FnExactTurnsOf.j0 k t328 t341 true a0_0 a0_1 l0_2 l1_0) else ((laws_eqIntS.f k t341 t328).bind fun t359 => (laws_FnExactTurnsOf.j0 k t328 t341 (!t359) a0_0 a0_1 l0_2 l1_0))) = some r := H
            have A34 := Aside0.mk A340
            clear A340
            have HC35 := Aside0.mk H
            clear H
            go_enter Try.func4, Try.ntmps4
            try go_wp2_with (first | ((with_reducible refine gate_dst (N := 2) rfl ?_); refine box_event ?hg (N := 2) ?hd (cs := #[.int .i64 a0_0, .int .i64 a0_1, .slice A0_2 l0_2.length c0_2]) (t := 26) ?hr ?_; (case hd => rfl); (case hg => rfl); (case hr => first | (go_simp; done) | (go_simp; rfl)); intro gb316 hg w36 hbox hb; have n0_ := Aside0.mk (below_step (by repeat (first | (with_reducible first | exact HB.out | apply below_alloc | apply pw_below_drewN | apply below_drew1) | exact HB.out)) hb); have n1_ := Aside0.mk (hbox); have n2_ := Aside0.mk ((by rw [hg]; exact (below_size (by repeat (first | (with_reducible first | exact HB.out | apply below_alloc | apply pw_below_drewN | apply below_drew1) | exact HB.out))) : w.heap.size ≤ gb316)); have n3_ := Aside0.mk ((by rw [hg]; exact (below_size (by repeat (first | (with_reducible first | exact HB.out | apply below_alloc | apply pw_below_drewN | apply below_drew1) | exact HB.out))) : w.heap.size ≤ gb316)); clear HB; have HB := n0_; have BK316 := n1_; have GW316 := n2_; have GE316 := n3_; clear n0_ n1_ n2_ n3_; clear hb hbox hg) | ((with_reducible refine gate_dst (N := 3) rfl ?_); refine box_event ?hg (N := 3) ?hd (cs := #[.slice A1_0 l1_0.length c1_0]) (t := 28) ?hr ?_; (case hd => rfl); (case hg => rfl); (case hr => first | (go_simp; done) | (go_simp; rfl)); intro gb317 hg w37 hbox hb; have n0_ := Aside0.mk (blk_below (g := gb316) (o := .cells #[.int .i64 a0_0, .int .i64 a0_1, .slice A0_2 l0_2.length c0_2] 26 (0, 0)) (by (with_reducible repeat (first | refine blk_drewN ?_ _ | refine blk_drew ?_ | refine blk_alloc ?_ _)); exact BK316.out) hb); have n1_ := Aside0.mk (below_step (by repeat (first | (with_reducible first | exact HB.out | apply below_alloc | apply pw_below_drewN | apply below_drew1 | refine below_set ?_ GE316.out) | exact HB.out)) hb); have n2_ := Aside0.mk (hbox); have n3_ := Aside0.mk ((by rw [hg]; exact (below_size (by repeat (first | (with_reducible first | exact HB.out | apply below_alloc | apply pw_below_drewN | apply below_drew1 | refine below_set ?_ GE316.out) | exact HB.out))) : w.heap.size ≤ gb317)); have n4_ := Aside0.mk ((by rw [hg]; exact (below_size (by repeat (first | (with_reducible first | exact HB.out | apply below_alloc | apply pw_below_drewN | apply below_drew1 | refine below_set ?_ GE316.out) | exact HB.out))) : w.heap.size ≤ gb317)); have n5_ := Aside0.mk ((by rw [hg]; exact Nat.ne_of_lt (blk_lt (g := gb316) (o := .cells #[.int .i64 a0_0, .int .i64 a0_1, .slice A0_2 l0_2.length c0_2] 26 (0, 0)) (by (with_reducible repeat (first | refine blk_drewN ?_ _ | refine blk_drew ?_ | refine blk_alloc ?_ _)); exact BK316.out)) : gb316 ≠ gb317)); have n6_ := Aside0.mk ((by rw [hg]; exact Nat.ne_of_gt (blk_lt (g := gb316) (o := .cells #[.int .i64 a0_0, .int .i64 a0_1, .slice A0_2 l0_2.length c0_2] 26 (0, 0)) (by (with_reducible repeat (first | refine blk_drewN ?_ _ | refine blk_drew ?_ | refine blk_alloc ?_ _)); exact BK316.out)) : gb317 ≠ gb316)); clear BK316; clear HB; have BK316 := n0_; have HB := n1_; have BK317 := n2_; have GW317 := n3_; have GE317 := n4_; have NB316_317 := n5_; have NB317_316 := n6_; clear n0_ n1_ n2_ n3_ n4_ n5_ n6_; clear hb hbox hg; have hnb38 := NB316_317.out; have hnc38 := NB317_316.out; have hcz39_0 : w37.cell? ⟨gb316, 0, none⟩ = some (.int .i64 a0_0) := (blk_cell BK316.out 0).trans rfl; have hcz39_1 : w37.cell? ⟨gb316, 1, none⟩ = some (.int .i64 a0_1) := (blk_cell BK316.out 1).trans rfl; have hcz39_2 : w37.cell? ⟨gb316, 2, none⟩ = some (.slice A0_2 l0_2.length c0_2) := (blk_cell BK316.out 2).trans rfl; have hfz39_0 := blk_frozen BK316.out 0; have hfz39_1 := blk_frozen BK316.out 1; have hfz39_2 := blk_frozen BK316.out 2) | ((with_reducible refine gate_callee (f := 15) rfl ?_); refine goesL_ (some 16) rfl rfl Try.func15 (by kernel_rfl) rfl #[.agg #[.int .i64 a0_0, .int .i64 a0_1, .slice A0_2 l0_2.length c0_2], .int .i64 1048576] rfl (by (try simp only [List.map_toArray, List.map_cons, List.map_nil]); first | done | rfl | (simp only [List.length_drop, List.length_take]; rfl)) ?_; (with_reducible refine (laws_szMesh.calls a0_0 a0_1 _ _ l0_2 1048576 t318 _ ?side1 ?side2 A3.out).mono ?_); (case side1 => repeat (first | exact (Kd.C_below HR0_2.out HB.out) | (with_reducible refine Kd.C_alloc ?_ _) | (with_reducible refine Kd.C_drewN ?_ _) | (with_reducible refine Kd.C_drew ?_))); (case side2 => exact HC0_2.out); rintro e w40 ⟨rfl, hb⟩; refine ⟨_, rfl, ?_⟩; have n0_ := Aside0.mk (blk_below (g := gb316) (o := .cells #[.int .i64 a0_0, .int .i64 a0_1, .slice A0_2 l0_2.length c0_2] 26 (0, 0)) (by (with_reducible repeat (first | refine blk_drewN ?_ _ | refine blk_drew ?_ | refine blk_alloc ?_ _)); exact BK316.out) hb); have n1_ := Aside0.mk (blk_below (g := gb317) (o := .cells #[.slice A1_0 l1_0.length c1_0] 28 (0, 0)) (by (with_reducible repeat (first | refine blk_drewN ?_ _ | refine blk_drew ?_ | refine blk_alloc ?_ _)); exact BK317.out) hb); have n2_ := Aside0.mk (below_step (by repeat (first | (with_reducible first | exact HB.out | apply below_alloc | apply pw_below_drewN | apply below_drew1 | refine below_set ?_ GE316.out | refine below_set ?_ GE317.out) | exact HB.out)) hb); clear BK316; clear BK317; clear HB; have BK316 := n0_; have BK317 := n1_; have HB := n2_; clear n0_ n1_ n2_; (try clear hb); (try clear hb2); (try clear hk); (try clear hi); have hcz41_0 : w40.cell? ⟨gb317, 0, none⟩ = some (.slice A1_0 l1_0.length c1_0) := (blk_cell BK317.out 0).trans rfl; have hfz41_0 := blk_frozen BK317.out 0) | ((with_reducible refine gate_callee (f := 16) rfl ?_); refine goesL_ (some 21) rfl rfl Try.func16 (by kernel_rfl) rfl #[.agg #[.slice A1_0 l1_0.length c1_0], .int .i64 t318] rfl (by (try simp only [List.map_toArray, List.map_cons, List.map_nil]); first | done | rfl | (simp only [List.length_drop, List.length_take]; rfl)) ?_; (with_reducible refine (laws_szTable.calls _ _ l1_0 t318 t319 _ ?side1 ?side2 A10.out).mono ?_); (case side1 => repeat (first | exact (Kd.C_below HR1_0.out HB.out) | (with_reducible refine Kd.C_alloc ?_ _) | (with_reducible refine Kd.C_drewN ?_ _) | (with_reducible refine Kd.C_drew ?_))); (case side2 => exact HC1_0.out); rintro e w42 ⟨rfl, hb⟩; refine ⟨_, rfl, ?_⟩; have n0_ := Aside0.mk (blk_below (g := gb316) (o := .cells #[.int .i64 a0_0, .int .i64 a0_1, .slice A0_2 l0_2.length c0_2] 26 (0, 0)) (by (with_reducible repeat (first | refine blk_drewN ?_ _ | refine blk_drew ?_ | refine blk_alloc ?_ _)); exact BK316.out) hb); have n1_ := Aside0.mk (blk_below (g := gb317) (o := .cells #[.slice A1_0 l1_0.length c1_0] 28 (0, 0)) (by (with_reducible repeat (first | refine blk_drewN ?_ _ | refine blk_drew ?_ | refine blk_alloc ?_ _)); exact BK317.out) hb); have n2_ := Aside0.mk (below_step (by repeat (first | (with_reducible first | exact HB.out | apply below_alloc | apply pw_below_drewN | apply below_drew1 | refine below_set ?_ GE316.out | refine below_set ?_ GE317.out) | exact HB.out)) hb); clear BK316; clear BK317; clear HB; have BK316 := n0_; have BK317 := n1_; have HB := n2_; clear n0_ n1_ n2_; (try clear hb); (try clear hb2); (try clear hk); (try clear hi)))
            have n0_ := Aside0.mk (blk_drew BK316.out)
            have n1_ := Aside0.mk (blk_drew BK317.out)
            have n2_ := Aside0.mk (below_drew1 HB.out)
            clear BK316
            clear BK317
            clear HB
            have BK316 := n0_
            have BK317 := n1_
            have HB := n2_
            clear n0_ n1_ n2_
            refine start_ (n := 6) (S := fun w' => w'.cell? ⟨gb316, 0, none⟩ = some (.int .i64 a0_0) ∧ w'.cell? ⟨gb316, 1, none⟩ = some (.int .i64 a0_1) ∧ w'.cell? ⟨gb316, 2, none⟩ = some (.slice A0_2 l0_2.length c0_2) ∧ w'.cell? ⟨gb317, 0, none⟩ = some (.slice A1_0 l1_0.length c1_0)) (ds := []) #[false, false, false, false, false, false] (by kernel_rfl) rfl rfl ⟨(blk_cell BK316.out 0).trans rfl, (blk_cell BK316.out 1).trans rfl, (blk_cell BK316.out 2).trans rfl, (blk_cell BK317.out 0).trans rfl⟩ (fun hHeld => ?_)
            generalize w42.drew = w43 at BK316 BK317 HB hHeld ⊢
            refine take_ (i := 0) (N := some 24) (v := ?_) (a' := ?_) #[true, false, false, false, false, false] rfl rfl (by kernel_rfl) (fun _ _ _ h => h) (Or.inl ⟨by rfl, ?_⟩) hHeld ?_ ?_
            rotate_left
            · rintro w' ⟨s0, s1, s2, s3⟩
              go_simp
              with_reducible rfl
            rotate_left
            · simp only [Act.put, List.setIfInBounds_toArray, List.set_cons_zero, List.set_cons_succ, i64_w, i32_w]
              rfl
            refine take_ (i := 2) (N := some 26) (v := ?_) (a' := ?_) #[true, false, true, false, false, false] rfl rfl (by kernel_rfl) (fun _ _ _ h => h) (Or.inl ⟨by rfl, ?_⟩) hHeld ?_ ?_
            rotate_left
            · rintro w' ⟨s0, s1, s2, s3⟩
              go_simp
              with_reducible rfl
            rotate_left
            · simp only [Act.put, List.setIfInBounds_toArray, List.set_cons_zero, List.set_cons_succ, i64_w, i32_w]
              rfl
            refine one_ (i := 1) (N := some 25) #[true, true, true, false, false, false] rfl rfl (by kernel_rfl) (by decide) (fun K hK => ?_)
            refine goes_ Try.func18 (by kernel_rfl) rfl #[.agg #[.int .i64 a0_0, .int .i64 a0_1, .slice A0_2 l0_2.length c0_2]] (by rfl) rfl rfl (by (try simp only [List.map_toArray, List.map_cons, List.map_nil]); first | done | rfl | (simp only [List.length_drop, List.length_take]; rfl)) ?_
            with_reducible refine (laws_toMesh.calls k a0_0 a0_1 _ _ l0_2 t320 t321 t322 _ ?side1 ?side2 A19.out).mono ?_
            (case side1 => repeat (first | exact (Kd.C_below HR0_2.out HB.out) | (with_reducible refine Kd.C_alloc ?_ _) | (with_reducible refine Kd.C_drewN ?_ _) | (with_reducible refine Kd.C_drew ?_)))
            (case side2 => exact HC0_2.out)
            rintro e w44 ⟨v323, rfl, ho0, hb⟩
            refine ⟨_, rfl, ?_⟩
            have n0_ := Aside0.mk (Kd.R_lower ho0 (below_size (by repeat (first | (with_reducible first | exact HB.out | apply below_alloc | apply pw_below_drewN | apply below_drew1 | refine below_set ?_ GE316.out | refine below_set ?_ GE317.out) | exact HB.out))))
            have n1_ := Aside0.mk (blk_below (g := gb316) (o := .cells #[.int .i64 a0_0, .int .i64 a0_1, .slice A0_2 l0_2.length c0_2] 26 (0, 0)) (by (with_reducible repeat (first | refine blk_drewN ?_ _ | refine blk_drew ?_ | refine blk_alloc ?_ _)); exact BK316.out) hb)
            have n2_ := Aside0.mk (blk_below (g := gb317) (o := .cells #[.slice A1_0 l1_0.length c1_0] 28 (0, 0)) (by (with_reducible repeat (first | refine blk_drewN ?_ _ | refine blk_drew ?_ | refine blk_alloc ?_ _)); exact BK317.out) hb)
            have n3_ := Aside0.mk (below_step (by repeat (first | (with_reducible first | exact HB.out | apply below_alloc | apply pw_below_drewN | apply below_drew1 | refine below_set ?_ GE316.out | refine below_set ?_ GE317.out) | exact HB.out)) hb)
            clear BK316
            clear BK317
            clear HB
            have HO324 := n0_
            have BK316 := n1_
            have BK317 := n2_
            have HB := n3_
            clear n0_ n1_ n2_ n3_
            (try clear hb)
            (try clear hb2)
            (try clear hk)
            (try clear hi)
            (try clear ho0)
            refine hK.out _ _ ⟨(blk_cell BK316.out 0).trans rfl, (blk_cell BK316.out 1).trans rfl, (blk_cell BK316.out 2).trans rfl, (blk_cell BK317.out 0).trans rfl⟩ (fun hHeld => ?_)
            clear hK K
            refine norm_ (a' := ?_) ?_ ?_
            rotate_left
            · show Act.put _ (some 25) _ = _
              simp only [Act.put, List.setIfInBounds_toArray, List.set_cons_zero, List.set_cons_succ, i64_w, i32_w]
              rfl
            refine one_ (i := 3) (N := some 27) #[true, true, true, true, false, false] rfl rfl (by kernel_rfl) (by decide) (fun K hK => ?_)
            refine goes_ Try.func19 (by kernel_rfl) rfl #[.agg #[.slice A1_0 l1_0.length c1_0]] (by rfl) rfl rfl (by (try simp only [List.map_toArray, List.map_cons, List.map_nil]); first | done | rfl | (simp only [List.length_drop, List.length_take]; rfl)) ?_
            with_reducible refine (laws_toTable.calls k _ _ l1_0 t325 _ ?side1 ?side2 A20.out).mono ?_
            (case side1 => repeat (first | exact (Kd.C_below HR1_0.out HB.out) | (with_reducible refine Kd.C_alloc ?_ _) | (with_reducible refine Kd.C_drewN ?_ _) | (with_reducible refine Kd.C_drew ?_)))
            (case side2 => exact HC1_0.out)
            rintro e w45 ⟨v326, rfl, ho0, hb⟩
            refine ⟨_, rfl, ?_⟩
            have n0_ := Aside0.mk (Kd.R_elder' (by (with_reducible repeat (first | apply Kd.R_alloc | apply Kd.R_drewN | apply Kd.R_drew)); exact HO324.out) (Kd.R_base ho0) hb)
            have n1_ := Aside0.mk (Kd.R_lower (Kd.R_new' ho0 (Kd.R_lt (by (with_reducible repeat (first | apply Kd.R_alloc | apply Kd.R_drewN | apply Kd.R_drew)); exact HO324.out))) (below_size (by repeat (first | (with_reducible first | exact HB.out | apply below_alloc | apply pw_below_drewN | apply below_drew1 | refine below_set ?_ GE316.out | refine below_set ?_ GE317.out) | exact HB.out))))
            have n2_ := Aside0.mk (blk_below (g := gb316) (o := .cells #[.int .i64 a0_0, .int .i64 a0_1, .slice A0_2 l0_2.length c0_2] 26 (0, 0)) (by (with_reducible repeat (first | refine blk_drewN ?_ _ | refine blk_drew ?_ | refine blk_alloc ?_ _)); exact BK316.out) hb)
            have n3_ := Aside0.mk (blk_below (g := gb317) (o := .cells #[.slice A1_0 l1_0.length c1_0] 28 (0, 0)) (by (with_reducible repeat (first | refine blk_drewN ?_ _ | refine blk_drew ?_ | refine blk_alloc ?_ _)); exact BK317.out) hb)
            have n4_ := Aside0.mk (below_step (by repeat (first | (with_reducible first | exact HB.out | apply below_alloc | apply pw_below_drewN | apply below_drew1 | refine below_set ?_ GE316.out | refine below_set ?_ GE317.out) | exact HB.out)) hb)
            clear HO324
            clear BK316
            clear BK317
            clear HB
            have HO324 := n0_
            have HO327 := n1_
            have BK316 := n2_
            have BK317 := n3_
            have HB := n4_
            clear n0_ n1_ n2_ n3_ n4_
            (try clear hb)
            (try clear hb2)
            (try clear hk)
            (try clear hi)
            (try clear ho0)
            obtain ⟨Ao46, co46, eo46⟩ := Kd.R_slice HO324.out
            (first | subst eo46 | (injection eo46 with f1_ f2_ f3_; have f4_ := f1_.symm; have f5_ := f3_.symm; clear f1_ f2_ f3_; subst f4_; subst f5_))
            obtain ⟨Ao47, co47, eo47⟩ := Kd.R_slice HO327.out
            (first | subst eo47 | (injection eo47 with f1_ f2_ f3_; have f4_ := f1_.symm; have f5_ := f3_.symm; clear f1_ f2_ f3_; subst f4_; subst f5_))
            refine hK.out _ _ ⟨(blk_cell BK316.out 0).trans rfl, (blk_cell BK316.out 1).trans rfl, (blk_cell BK316.out 2).trans rfl, (blk_cell BK317.out 0).trans rfl⟩ (fun hHeld => ?_)
            clear hK K
            refine norm_ (a' := ?_) ?_ ?_
            rotate_left
            · show Act.put _ (some 27) _ = _
              simp only [Act.put, List.setIfInBounds_toArray, List.set_cons_zero, List.set_cons_succ, i64_w, i32_w]
              rfl
            refine one_ (i := 4) (N := some 28) #[true, true, true, true, true, false] rfl rfl (by kernel_rfl) (by decide) (fun K hK => ?_)
            refine goes_ Try.func25 (by kernel_rfl) rfl #[.agg #[.int .i64 t320, .int .i64 t321, .slice Ao46 t322.length co46], .agg #[.slice Ao47 t325.length co47]] (by rfl) rfl rfl (by (try simp only [List.map_toArray, List.map_cons, List.map_nil]); first | done | rfl | (simp only [List.length_drop, List.length_take]; rfl)) ?_
            with_reducible refine (spec_TurnsOf.calls k t320 t321 _ _ t322 _ _ t325 t328 _ ?side1 ?side2 ?side3 ?side4 A21.out).mono ?_
            (case side1 => repeat (first | exact (Kd.R_reads' HO324.out).2.2 | (with_reducible refine Kd.C_alloc ?_ _) | (with_reducible refine Kd.C_drewN ?_ _) | (with_reducible refine Kd.C_drew ?_)))
            (case side2 => exact (Kd.R_reads' HO324.out).2.1)
            (case side3 => repeat (first | exact (Kd.R_reads' HO327.out).2.2 | (with_reducible refine Kd.C_alloc ?_ _) | (with_reducible refine Kd.C_drewN ?_ _) | (with_reducible refine Kd.C_drew ?_)))
            (case side4 => exact (Kd.R_reads' HO327.out).2.1)
            rintro e w48 ⟨v329, rfl, ho0, hb⟩
            refine ⟨_, rfl, ?_⟩
            have n0_ := Aside0.mk (Kd.R_elder' (by (with_reducible repeat (first | apply Kd.R_alloc | apply Kd.R_drewN | apply Kd.R_drew)); exact HO324.out) (Kd.R_base ho0) hb)
            have n1_ := Aside0.mk (Kd.R_elder' (by (with_reducible repeat (first | apply Kd.R_alloc | apply Kd.R_drewN | apply Kd.R_drew)); exact HO327.out) (Kd.R_base ho0) hb)
            have n2_ := Aside0.mk (Kd.R_lower (Kd.R_new' (Kd.R_new' ho0 (Kd.R_lt (by (with_reducible repeat (first | apply Kd.R_alloc | apply Kd.R_drewN | apply Kd.R_drew)); exact HO324.out))) (Kd.R_lt (by (with_reducible repeat (first | apply Kd.R_alloc | apply Kd.R_drewN | apply Kd.R_drew)); exact HO327.out))) (below_size (by repeat (first | (with_reducible first | exact HB.out | apply below_alloc | apply pw_below_drewN | apply below_drew1 | refine below_set ?_ GE316.out | refine below_set ?_ GE317.out) | exact HB.out))))
            have n3_ := Aside0.mk (blk_below (g := gb316) (o := .cells #[.int .i64 a0_0, .int .i64 a0_1, .slice A0_2 l0_2.length c0_2] 26 (0, 0)) (by (with_reducible repeat (first | refine blk_drewN ?_ _ | refine blk_drew ?_ | refine blk_alloc ?_ _)); exact BK316.out) hb)
            have n4_ := Aside0.mk (blk_below (g := gb317) (o := .cells #[.slice A1_0 l1_0.length c1_0] 28 (0, 0)) (by (with_reducible repeat (first | refine blk_drewN ?_ _ | refine blk_drew ?_ | refine blk_alloc ?_ _)); exact BK317.out) hb)
            have n5_ := Aside0.mk (below_step (by repeat (first | (with_reducible first | exact HB.out | apply below_alloc | apply pw_below_drewN | apply below_drew1 | refine below_set ?_ GE316.out | refine below_set ?_ GE317.out) | exact HB.out)) hb)
            clear HO324
            clear HO327
            clear BK316
            clear BK317
            clear HB
            have HO324 := n0_
            have HO327 := n1_
            have HO330 := n2_
            have BK316 := n3_
            have BK317 := n4_
            have HB := n5_
            clear n0_ n1_ n2_ n3_ n4_ n5_
            (try clear hb)
            (try clear hb2)
            (try clear hk)
            (try clear hi)
            (try clear ho0)
            refine hK.out _ _ ⟨(blk_cell BK316.out 0).trans rfl, (blk_cell BK316.out 1).trans rfl, (blk_cell BK316.out 2).trans rfl, (blk_cell BK317.out 0).trans rfl⟩ (fun hHeld => ?_)
            clear hK K
            refine norm_ (a' := ?_) ?_ ?_
            rotate_left
            · show Act.put _ (some 28) _ = _
              simp only [Act.put, List.setIfInBounds_toArray, List.set_cons_zero, List.set_cons_succ, i64_w, i32_w]
              rfl
            refine pure_ (i := 5) (N := some 6) (v := ?_) (a' := ?_) #[true, true, true, true, true, true] rfl rfl (by kernel_rfl) (fun _ _ _ h => h) (Or.inl ⟨by rfl, ?_⟩) ?_ ?_
            rotate_left
            · intro w'
              go_simp
              with_reducible rfl
            rotate_left
            · simp only [Act.put, List.setIfInBounds_toArray, List.set_cons_zero, List.set_cons_succ, i64_w, i32_w]
              rfl
            refine done_ (by kernel_rfl) ?_
            have hcz49_0 : w48.cell? ⟨gb316, 0, none⟩ = some (.int .i64 a0_0) := (blk_cell BK316.out 0).trans rfl
            have hcz49_1 : w48.cell? ⟨gb316, 1, none⟩ = some (.int .i64 a0_1) := (blk_cell BK316.out 1).trans rfl
            have hcz49_2 : w48.cell? ⟨gb316, 2, none⟩ = some (.slice A0_2 l0_2.length c0_2) := (blk_cell BK316.out 2).trans rfl
            have hfz49_0 := blk_frozen BK316.out 0
            have hfz49_1 := blk_frozen BK316.out 1
            have hfz49_2 := blk_frozen BK316.out 2
            try go_wp2_with (first | ((with_reducible refine gate_callee (f := 18) rfl ?_); refine goesL_ (some 30) rfl rfl Try.func18 (by kernel_rfl) rfl #[.agg #[.int .i64 a0_0, .int .i64 a0_1, .slice A0_2 l0_2.length c0_2]] rfl (by (try simp only [List.map_toArray, List.map_cons, List.map_nil]); first | done | rfl | (simp only [List.length_drop, List.length_take]; rfl)) ?_; (with_reducible refine (laws_toMesh.calls k a0_0 a0_1 _ _ l0_2 t331 t332 t333 _ ?side1 ?side2 A22.out).mono ?_); (case side1 => repeat (first | exact (Kd.C_below HR0_2.out HB.out) | (with_reducible refine Kd.C_alloc ?_ _) | (with_reducible refine Kd.C_drewN ?_ _) | (with_reducible refine Kd.C_drew ?_))); (case side2 => exact HC0_2.out); rintro e w50 ⟨v334, rfl, ho0, hb⟩; refine ⟨_, rfl, ?_⟩; have n0_ := Aside0.mk (Kd.R_elder' (by (with_reducible repeat (first | apply Kd.R_alloc | apply Kd.R_drewN | apply Kd.R_drew)); exact HO324.out) (Kd.R_base ho0) hb); have n1_ := Aside0.mk (Kd.R_elder' (by (with_reducible repeat (first | apply Kd.R_alloc | apply Kd.R_drewN | apply Kd.R_drew)); exact HO327.out) (Kd.R_base ho0) hb); have n2_ := Aside0.mk (Kd.R_elder' (by (with_reducible repeat (first | apply Kd.R_alloc | apply Kd.R_drewN | apply Kd.R_drew)); exact HO330.out) (Kd.R_base ho0) hb); have n3_ := Aside0.mk (Kd.R_lower (Kd.R_new' (Kd.R_new' (Kd.R_new' ho0 (Kd.R_lt (by (with_reducible repeat (first | apply Kd.R_alloc | apply Kd.R_drewN | apply Kd.R_drew)); exact HO324.out))) (Kd.R_lt (by (with_reducible repeat (first | apply Kd.R_alloc | apply Kd.R_drewN | apply Kd.R_drew)); exact HO327.out))) (Kd.R_lt (by (with_reducible repeat (first | apply Kd.R_alloc | apply Kd.R_drewN | apply Kd.R_drew)); exact HO330.out))) (below_size (by repeat (first | (with_reducible first | exact HB.out | apply below_alloc | apply pw_below_drewN | apply below_drew1 | refine below_set ?_ GE316.out | refine below_set ?_ GE317.out) | exact HB.out)))); have n4_ := Aside0.mk (blk_below (g := gb316) (o := .cells #[.int .i64 a0_0, .int .i64 a0_1, .slice A0_2 l0_2.length c0_2] 26 (0, 0)) (by (with_reducible repeat (first | refine blk_drewN ?_ _ | refine blk_drew ?_ | refine blk_alloc ?_ _)); exact BK316.out) hb); have n5_ := Aside0.mk (blk_below (g := gb317) (o := .cells #[.slice A1_0 l1_0.length c1_0] 28 (0, 0)) (by (with_reducible repeat (first | refine blk_drewN ?_ _ | refine blk_drew ?_ | refine blk_alloc ?_ _)); exact BK317.out) hb); have n6_ := Aside0.mk (below_step (by repeat (first | (with_reducible first | exact HB.out | apply below_alloc | apply pw_below_drewN | apply below_drew1 | refine below_set ?_ GE316.out | refine below_set ?_ GE317.out) | exact HB.out)) hb); clear HO324; clear HO327; clear HO330; clear BK316; clear BK317; clear HB; have HO324 := n0_; have HO327 := n1_; have HO330 := n2_; have HO335 := n3_; have BK316 := n4_; have BK317 := n5_; have HB := n6_; clear n0_ n1_ n2_ n3_ n4_ n5_ n6_; (try clear hb); (try clear hb2); (try clear hk); (try clear hi); (try clear ho0)) | ((with_reducible refine gate_dst (N := 7) rfl ?_); refine box_event ?hg (N := 7) ?hd (cs := #[.int .i64 0, .int .i64 0, .slice none 0 0]) (t := 34) ?hr ?_; (case hd => rfl); (case hg => rfl); (case hr => first | (go_simp; done) | (go_simp; rfl)); intro gb336 hg w51 hbox hb; have n0_ := Aside0.mk (Kd.R_below (by (with_reducible repeat (first | apply Kd.R_alloc | apply Kd.R_drewN | apply Kd.R_drew)); exact HO324.out) hb); have n1_ := Aside0.mk (Kd.R_below (by (with_reducible repeat (first | apply Kd.R_alloc | apply Kd.R_drewN | apply Kd.R_drew)); exact HO327.out) hb); have n2_ := Aside0.mk (Kd.R_below (by (with_reducible repeat (first | apply Kd.R_alloc | apply Kd.R_drewN | apply Kd.R_drew)); exact HO330.out) hb); have n3_ := Aside0.mk (Kd.R_below (by (with_reducible repeat (first | apply Kd.R_alloc | apply Kd.R_drewN | apply Kd.R_drew)); exact HO335.out) hb); have n4_ := Aside0.mk (blk_below (g := gb316) (o := .cells #[.int .i64 a0_0, .int .i64 a0_1, .slice A0_2 l0_2.length c0_2] 26 (0, 0)) (by (with_reducible repeat (first | refine blk_drewN ?_ _ | refine blk_drew ?_ | refine blk_alloc ?_ _)); exact BK316.out) hb); have n5_ := Aside0.mk (blk_below (g := gb317) (o := .cells #[.slice A1_0 l1_0.length c1_0] 28 (0, 0)) (by (with_reducible repeat (first | refine blk_drewN ?_ _ | refine blk_drew ?_ | refine blk_alloc ?_ _)); exact BK317.out) hb); have n6_ := Aside0.mk (below_step (by repeat (first | (with_reducible first | exact HB.out | apply below_alloc | apply pw_below_drewN | apply below_drew1 | refine below_set ?_ GE316.out | refine below_set ?_ GE317.out) | exact HB.out)) hb); have n7_ := Aside0.mk (hbox); have n8_ := Aside0.mk ((by rw [hg]; exact (below_size (by repeat (first | (with_reducible first | exact HB.out | apply below_alloc | apply pw_below_drewN | apply below_drew1 | refine below_set ?_ GE316.out | refine below_set ?_ GE317.out) | exact HB.out))) : w.heap.size ≤ gb336)); have n9_ := Aside0.mk ((by rw [hg]; exact (below_size (by repeat (first | (with_reducible first | exact HB.out | apply below_alloc | apply pw_below_drewN | apply below_drew1 | refine below_set ?_ GE316.out | refine below_set ?_ GE317.out) | exact HB.out))) : w.heap.size ≤ gb336)); have n10_ := Aside0.mk ((by rw [hg]; exact Nat.ne_of_lt (blk_lt (g := gb316) (o := .cells #[.int .i64 a0_0, .int .i64 a0_1, .slice A0_2 l0_2.length c0_2] 26 (0, 0)) (by (with_reducible repeat (first | refine blk_drewN ?_ _ | refine blk_drew ?_ | refine blk_alloc ?_ _)); exact BK316.out)) : gb316 ≠ gb336)); have n11_ := Aside0.mk ((by rw [hg]; exact Nat.ne_of_gt (blk_lt (g := gb316) (o := .cells #[.int .i64 a0_0, .int .i64 a0_1, .slice A0_2 l0_2.length c0_2] 26 (0, 0)) (by (with_reducible repeat (first | refine blk_drewN ?_ _ | refine blk_drew ?_ | refine blk_alloc ?_ _)); exact BK316.out)) : gb336 ≠ gb316)); have n12_ := Aside0.mk ((by rw [hg]; exact Nat.ne_of_lt (blk_lt (g := gb317) (o := .cells #[.slice A1_0 l1_0.length c1_0] 28 (0, 0)) (by (with_reducible repeat (first | refine blk_drewN ?_ _ | refine blk_drew ?_ | refine blk_alloc ?_ _)); exact BK317.out)) : gb317 ≠ gb336)); have n13_ := Aside0.mk ((by rw [hg]; exact Nat.ne_of_gt (blk_lt (g := gb317) (o := .cells #[.slice A1_0 l1_0.length c1_0] 28 (0, 0)) (by (with_reducible repeat (first | refine blk_drewN ?_ _ | refine blk_drew ?_ | refine blk_alloc ?_ _)); exact BK317.out)) : gb336 ≠ gb317)); clear HO324; clear HO327; clear HO330; clear HO335; clear BK316; clear BK317; clear HB; have HO324 := n0_; have HO327 := n1_; have HO330 := n2_; have HO335 := n3_; have BK316 := n4_; have BK317 := n5_; have HB := n6_; have BK336 := n7_; have GW336 := n8_; have GE336 := n9_; have NB316_336 := n10_; have NB336_316 := n11_; have NB317_336 := n12_; have NB336_317 := n13_; clear n0_ n1_ n2_ n3_ n4_ n5_ n6_ n7_ n8_ n9_ n10_ n11_ n12_ n13_; clear hb hbox hg; have hnb52 := NB336_316.out; have hnc52 := NB316_336.out; have hnb53 := NB336_317.out; have hnc53 := NB317_336.out; have hcz54_0 : w51.cell? ⟨gb336, 0, none⟩ = some (.int .i64 0) := (blk_cell BK336.out 0).trans rfl; have hcz54_1 : w51.cell? ⟨gb336, 1, none⟩ = some (.int .i64 0) := (blk_cell BK336.out 1).trans rfl; have hcz54_2 : w51.cell? ⟨gb336, 2, none⟩ = some (.slice none 0 0) := (blk_cell BK336.out 2).trans rfl; have hfz54_0 := blk_frozen BK336.out 0; have hfz54_1 := blk_frozen BK336.out 1; have hfz54_2 := blk_frozen BK336.out 2; obtain ⟨Ao55, co55, eo55⟩ := Kd.R_slice HO335.out; subst eo55; have hcz56_0 : w51.cell? ⟨gb317, 0, none⟩ = some (.slice A1_0 l1_0.length c1_0) := (blk_cell BK317.out 0).trans rfl; have hfz56_0 := blk_frozen BK317.out 0) | ((with_reducible refine gate_callee (f := 19) rfl ?_); refine goesL_ (some 32) rfl rfl Try.func19 (by kernel_rfl) rfl #[.agg #[.slice A1_0 l1_0.length c1_0]] rfl (by (try simp only [List.map_toArray, List.map_cons, List.map_nil]); first | done | rfl | (simp only [List.length_drop, List.length_take]; rfl)) ?_; (with_reducible refine (laws_toTable.calls k _ _ l1_0 t337 _ ?side1 ?side2 A23.out).mono ?_); (case side1 => exact Kd.C_below HR1_0.out (by repeat (first | (with_reducible first | exact HB.out | apply below_alloc | apply pw_below_drewN | apply below_drew1 | refine below_set ?_ GE316.out | refine below_set ?_ GE317.out | refine below_set ?_ GE336.out) | exact HB.out))); (case side2 => exact HC1_0.out); rintro e w57 ⟨v338, rfl, ho0, hb⟩; refine ⟨_, rfl, ?_⟩; have n0_ := Aside0.mk (Kd.R_elder' (by (with_reducible repeat (first | apply Kd.R_alloc | apply Kd.R_drewN | apply Kd.R_drew)); exact (Kd.R_mono (Kd.R_far (p := ⟨gb336, 2, none⟩) (Kd.R_far (p := ⟨gb336, 1, none⟩) (Kd.R_far (p := ⟨gb336, 0, none⟩) (Kd.R_types HO324.out BK336.out (by decide)) (fun _ hk => by first | exact hk.2 | (simp_all; done) | grind) (.int .i64 t331)) (fun _ hk => by first | exact hk.2 | (simp_all; done) | grind) (.int .i64 t332)) (fun _ hk => by first | exact hk.2 | (simp_all; done) | grind) (.slice Ao55 t333.length co55)) (fun _ h_ => h_.1))) (Kd.R_base ho0) hb); have n1_ := Aside0.mk (Kd.R_elder' (by (with_reducible repeat (first | apply Kd.R_alloc | apply Kd.R_drewN | apply Kd.R_drew)); exact (Kd.R_mono (Kd.R_far (p := ⟨gb336, 2, none⟩) (Kd.R_far (p := ⟨gb336, 1, none⟩) (Kd.R_far (p := ⟨gb336, 0, none⟩) (Kd.R_types HO327.out BK336.out (by decide)) (fun _ hk => by first | exact hk.2 | (simp_all; done) | grind) (.int .i64 t331)) (fun _ hk => by first | exact hk.2 | (simp_all; done) | grind) (.int .i64 t332)) (fun _ hk => by first | exact hk.2 | (simp_all; done) | grind) (.slice Ao55 t333.length co55)) (fun _ h_ => h_.1))) (Kd.R_base ho0) hb); have n2_ := Aside0.mk (Kd.R_elder' (by (with_reducible repeat (first | apply Kd.R_alloc | apply Kd.R_drewN | apply Kd.R_drew)); exact (Kd.R_mono (Kd.R_far (p := ⟨gb336, 2, none⟩) (Kd.R_far (p := ⟨gb336, 1, none⟩) (Kd.R_far (p := ⟨gb336, 0, none⟩) (Kd.R_types HO330.out BK336.out (by decide)) (fun _ hk => by first | exact hk.2 | (simp_all; done) | grind) (.int .i64 t331)) (fun _ hk => by first | exact hk.2 | (simp_all; done) | grind) (.int .i64 t332)) (fun _ hk => by first | exact hk.2 | (simp_all; done) | grind) (.slice Ao55 t333.length co55)) (fun _ h_ => h_.1))) (Kd.R_base ho0) hb); have n3_ := Aside0.mk (Kd.R_elder' (by (with_reducible repeat (first | apply Kd.R_alloc | apply Kd.R_drewN | apply Kd.R_drew)); exact (Kd.R_mono (Kd.R_far (p := ⟨gb336, 2, none⟩) (Kd.R_far (p := ⟨gb336, 1, none⟩) (Kd.R_far (p := ⟨gb336, 0, none⟩) (Kd.R_types HO335.out BK336.out (by decide)) (fun _ hk => by first | exact hk.2 | (simp_all; done) | grind) (.int .i64 t331)) (fun _ hk => by first | exact hk.2 | (simp_all; done) | grind) (.int .i64 t332)) (fun _ hk => by first | exact hk.2 | (simp_all; done) | grind) (.slice Ao55 t333.length co55)) (fun _ h_ => h_.1))) (Kd.R_base ho0) hb); have n4_ := Aside0.mk (Kd.R_lower (Kd.R_new' (Kd.R_new' (Kd.R_new' (Kd.R_new' ho0 (Kd.R_lt (by (with_reducible repeat (first | apply Kd.R_alloc | apply Kd.R_drewN | apply Kd.R_drew)); exact (Kd.R_mono (Kd.R_far (p := ⟨gb336, 2, none⟩) (Kd.R_far (p := ⟨gb336, 1, none⟩) (Kd.R_far (p := ⟨gb336, 0, none⟩) (Kd.R_types HO324.out BK336.out (by decide)) (fun _ hk => by first | exact hk.2 | (simp_all; done) | grind) (.int .i64 t331)) (fun _ hk => by first | exact hk.2 | (simp_all; done) | grind) (.int .i64 t332)) (fun _ hk => by first | exact hk.2 | (simp_all; done) | grind) (.slice Ao55 t333.length co55)) (fun _ h_ => h_.1))))) (Kd.R_lt (by (with_reducible repeat (first | apply Kd.R_alloc | apply Kd.R_drewN | apply Kd.R_drew)); exact (Kd.R_mono (Kd.R_far (p := ⟨gb336, 2, none⟩) (Kd.R_far (p := ⟨gb336, 1, none⟩) (Kd.R_far (p := ⟨gb336, 0, none⟩) (Kd.R_types HO327.out BK336.out (by decide)) (fun _ hk => by first | exact hk.2 | (simp_all; done) | grind) (.int .i64 t331)) (fun _ hk => by first | exact hk.2 | (simp_all; done) | grind) (.int .i64 t332)) (fun _ hk => by first | exact hk.2 | (simp_all; done) | grind) (.slice Ao55 t333.length co55)) (fun _ h_ => h_.1))))) (Kd.R_lt (by (with_reducible repeat (first | apply Kd.R_alloc | apply Kd.R_drewN | apply Kd.R_drew)); exact (Kd.R_mono (Kd.R_far (p := ⟨gb336, 2, none⟩) (Kd.R_far (p := ⟨gb336, 1, none⟩) (Kd.R_far (p := ⟨gb336, 0, none⟩) (Kd.R_types HO330.out BK336.out (by decide)) (fun _ hk => by first | exact hk.2 | (simp_all; done) | grind) (.int .i64 t331)) (fun _ hk => by first | exact hk.2 | (simp_all; done) | grind) (.int .i64 t332)) (fun _ hk => by first | exact hk.2 | (simp_all; done) | grind) (.slice Ao55 t333.length co55)) (fun _ h_ => h_.1))))) (Kd.R_lt (by (with_reducible repeat (first | apply Kd.R_alloc | apply Kd.R_drewN | apply Kd.R_drew)); exact (Kd.R_mono (Kd.R_far (p := ⟨gb336, 2, none⟩) (Kd.R_far (p := ⟨gb336, 1, none⟩) (Kd.R_far (p := ⟨gb336, 0, none⟩) (Kd.R_types HO335.out BK336.out (by decide)) (fun _ hk => by first | exact hk.2 | (simp_all; done) | grind) (.int .i64 t331)) (fun _ hk => by first | exact hk.2 | (simp_all; done) | grind) (.int .i64 t332)) (fun _ hk => by first | exact hk.2 | (simp_all; done) | grind) (.slice Ao55 t333.length co55)) (fun _ h_ => h_.1))))) (below_size (by repeat (first | (with_reducible first | exact HB.out | apply below_alloc | apply pw_below_drewN | apply below_drew1 | refine below_set ?_ GE316.out | refine below_set ?_ GE317.out | refine below_set ?_ GE336.out) | exact HB.out)))); have n5_ := Aside0.mk (blk_below (g := gb316) (o := .cells #[.int .i64 a0_0, .int .i64 a0_1, .slice A0_2 l0_2.length c0_2] 26 (0, 0)) (by (with_reducible repeat (first | refine blk_drewN ?_ _ | refine blk_drew ?_ | refine blk_alloc ?_ _)); refine blk_far ?_ NB316_336.out _; (with_reducible repeat (first | refine blk_drewN ?_ _ | refine blk_drew ?_ | refine blk_alloc ?_ _)); refine blk_far ?_ NB316_336.out _; (with_reducible repeat (first | refine blk_drewN ?_ _ | refine blk_drew ?_ | refine blk_alloc ?_ _)); refine blk_far ?_ NB316_336.out _; (with_reducible repeat (first | refine blk_drewN ?_ _ | refine blk_drew ?_ | refine blk_alloc ?_ _)); exact BK316.out) hb); have n6_ := Aside0.mk (blk_below (g := gb317) (o := .cells #[.slice A1_0 l1_0.length c1_0] 28 (0, 0)) (by (with_reducible repeat (first | refine blk_drewN ?_ _ | refine blk_drew ?_ | refine blk_alloc ?_ _)); refine blk_far ?_ NB317_336.out _; (with_reducible repeat (first | refine blk_drewN ?_ _ | refine blk_drew ?_ | refine blk_alloc ?_ _)); refine blk_far ?_ NB317_336.out _; (with_reducible repeat (first | refine blk_drewN ?_ _ | refine blk_drew ?_ | refine blk_alloc ?_ _)); refine blk_far ?_ NB317_336.out _; (with_reducible repeat (first | refine blk_drewN ?_ _ | refine blk_drew ?_ | refine blk_alloc ?_ _)); exact BK317.out) hb); have n7_ := Aside0.mk (blk_below (g := gb336) (o := .cells #[.int .i64 t331, .int .i64 t332, .slice Ao55 t333.length co55] 34 (0, 0)) (by (with_reducible repeat (first | refine blk_drewN ?_ _ | refine blk_drew ?_ | refine blk_alloc ?_ _)); refine blk_put (cs := #[.int .i64 t331, .int .i64 t332, .slice none 0 0]) ?_ 2 _ rfl; (with_reducible repeat (first | refine blk_drewN ?_ _ | refine blk_drew ?_ | refine blk_alloc ?_ _)); refine blk_put (cs := #[.int .i64 t331, .int .i64 0, .slice none 0 0]) ?_ 1 _ rfl; (with_reducible repeat (first | refine blk_drewN ?_ _ | refine blk_drew ?_ | refine blk_alloc ?_ _)); refine blk_put (cs := #[.int .i64 0, .int .i64 0, .slice none 0 0]) ?_ 0 _ rfl; (with_reducible repeat (first | refine blk_drewN ?_ _ | refine blk_drew ?_ | refine blk_alloc ?_ _)); exact BK336.out) hb); have n8_ := Aside0.mk (below_step (by repeat (first | (with_reducible first | exact HB.out | apply below_alloc | apply pw_below_drewN | apply below_drew1 | refine below_set ?_ GE316.out | refine below_set ?_ GE317.out | refine below_set ?_ GE336.out) | exact HB.out)) hb); clear HO324; clear HO327; clear HO330; clear HO335; clear BK316; clear BK317; clear BK336; clear HB; have HO324 := n0_; have HO327 := n1_; have HO330 := n2_; have HO335 := n3_; have HO339 := n4_; have BK316 := n5_; have BK317 := n6_; have BK336 := n7_; have HB := n8_; clear n0_ n1_ n2_ n3_ n4_ n5_ n6_ n7_ n8_; (try clear hb); (try clear hb2); (try clear hk); (try clear hi); (try clear ho0)) | ((with_reducible refine gate_dst (N := 8) rfl ?_); refine box_event ?hg (N := 8) ?hd (cs := #[.slice none 0 0]) (t := 36) ?hr ?_; (case hd => rfl); (case hg => rfl); (case hr => first | (go_simp; done) | (go_simp; rfl)); intro gb340 hg w58 hbox hb; have n0_ := Aside0.mk (Kd.R_below (by (with_reducible repeat (first | apply Kd.R_alloc | apply Kd.R_drewN | apply Kd.R_drew)); exact HO324.out) hb); have n1_ := Aside0.mk (Kd.R_below (by (with_reducible repeat (first | apply Kd.R_alloc | apply Kd.R_drewN | apply Kd.R_drew)); exact HO327.out) hb); have n2_ := Aside0.mk (Kd.R_below (by (with_reducible repeat (first | apply Kd.R_alloc | apply Kd.R_drewN | apply Kd.R_drew)); exact HO330.out) hb); have n3_ := Aside0.mk (Kd.R_below (by (with_reducible repeat (first | apply Kd.R_alloc | apply Kd.R_drewN | apply Kd.R_drew)); exact HO335.out) hb); have n4_ := Aside0.mk (Kd.R_below (by (with_reducible repeat (first | apply Kd.R_alloc | apply Kd.R_drewN | apply Kd.R_drew)); exact HO339.out) hb); have n5_ := Aside0.mk (blk_below (g := gb316) (o := .cells #[.int .i64 a0_0, .int .i64 a0_1, .slice A0_2 l0_2.length c0_2] 26 (0, 0)) (by (with_reducible repeat (first | refine blk_drewN ?_ _ | refine blk_drew ?_ | refine blk_alloc ?_ _)); exact BK316.out) hb); have n6_ := Aside0.mk (blk_below (g := gb317) (o := .cells #[.slice A1_0 l1_0.length c1_0] 28 (0, 0)) (by (with_reducible repeat (first | refine blk_drewN ?_ _ | refine blk_drew ?_ | refine blk_alloc ?_ _)); exact BK317.out) hb); have n7_ := Aside0.mk (blk_below (g := gb336) (o := .cells #[.int .i64 t331, .int .i64 t332, .slice Ao55 t333.length co55] 34 (0, 0)) (by (with_reducible repeat (first | refine blk_drewN ?_ _ | refine blk_drew ?_ | refine blk_alloc ?_ _)); exact BK336.out) hb); have n8_ := Aside0.mk (below_step (by repeat (first | (with_reducible first | exact HB.out | apply below_alloc | apply pw_below_drewN | apply below_drew1 | refine below_set ?_ GE316.out | refine below_set ?_ GE317.out | refine below_set ?_ GE336.out) | exact HB.out)) hb); have n9_ := Aside0.mk (hbox); have n10_ := Aside0.mk ((by rw [hg]; exact (below_size (by repeat (first | (with_reducible first | exact HB.out | apply below_alloc | apply pw_below_drewN | apply below_drew1 | refine below_set ?_ GE316.out | refine below_set ?_ GE317.out | refine below_set ?_ GE336.out) | exact HB.out))) : w.heap.size ≤ gb340)); have n11_ := Aside0.mk ((by rw [hg]; exact (below_size (by repeat (first | (with_reducible first | exact HB.out | apply below_alloc | apply pw_below_drewN | apply below_drew1 | refine below_set ?_ GE316.out | refine below_set ?_ GE317.out | refine below_set ?_ GE336.out) | exact HB.out))) : w.heap.size ≤ gb340)); have n12_ := Aside0.mk ((by rw [hg]; exact Nat.ne_of_lt (blk_lt (g := gb316) (o := .cells #[.int .i64 a0_0, .int .i64 a0_1, .slice A0_2 l0_2.length c0_2] 26 (0, 0)) (by (with_reducible repeat (first | refine blk_drewN ?_ _ | refine blk_drew ?_ | refine blk_alloc ?_ _)); exact BK316.out)) : gb316 ≠ gb340)); have n13_ := Aside0.mk ((by rw [hg]; exact Nat.ne_of_gt (blk_lt (g := gb316) (o := .cells #[.int .i64 a0_0, .int .i64 a0_1, .slice A0_2 l0_2.length c0_2] 26 (0, 0)) (by (with_reducible repeat (first | refine blk_drewN ?_ _ | refine blk_drew ?_ | refine blk_alloc ?_ _)); exact BK316.out)) : gb340 ≠ gb316)); have n14_ := Aside0.mk ((by rw [hg]; exact Nat.ne_of_lt (blk_lt (g := gb317) (o := .cells #[.slice A1_0 l1_0.length c1_0] 28 (0, 0)) (by (with_reducible repeat (first | refine blk_drewN ?_ _ | refine blk_drew ?_ | refine blk_alloc ?_ _)); exact BK317.out)) : gb317 ≠ gb340)); have n15_ := Aside0.mk ((by rw [hg]; exact Nat.ne_of_gt (blk_lt (g := gb317) (o := .cells #[.slice A1_0 l1_0.length c1_0] 28 (0, 0)) (by (with_reducible repeat (first | refine blk_drewN ?_ _ | refine blk_drew ?_ | refine blk_alloc ?_ _)); exact BK317.out)) : gb340 ≠ gb317)); have n16_ := Aside0.mk ((by rw [hg]; exact Nat.ne_of_lt (blk_lt (g := gb336) (o := .cells #[.int .i64 t331, .int .i64 t332, .slice Ao55 t333.length co55] 34 (0, 0)) (by (with_reducible repeat (first | refine blk_drewN ?_ _ | refine blk_drew ?_ | refine blk_alloc ?_ _)); exact BK336.out)) : gb336 ≠ gb340)); have n17_ := Aside0.mk ((by rw [hg]; exact Nat.ne_of_gt (blk_lt (g := gb336) (o := .cells #[.int .i64 t331, .int .i64 t332, .slice Ao55 t333.length co55] 34 (0, 0)) (by (with_reducible repeat (first | refine blk_drewN ?_ _ | refine blk_drew ?_ | refine blk_alloc ?_ _)); exact BK336.out)) : gb340 ≠ gb336)); clear HO324; clear HO327; clear HO330; clear HO335; clear HO339; clear BK316; clear BK317; clear BK336; clear HB; have HO324 := n0_; have HO327 := n1_; have HO330 := n2_; have HO335 := n3_; have HO339 := n4_; have BK316 := n5_; have BK317 := n6_; have BK336 := n7_; have HB := n8_; have BK340 := n9_; have GW340 := n10_; have GE340 := n11_; have NB316_340 := n12_; have NB340_316 := n13_; have NB317_340 := n14_; have NB340_317 := n15_; have NB336_340 := n16_; have NB340_336 := n17_; clear n0_ n1_ n2_ n3_ n4_ n5_ n6_ n7_ n8_ n9_ n10_ n11_ n12_ n13_ n14_ n15_ n16_ n17_; clear hb hbox hg; obtain ⟨Ao59, co59, eo59⟩ := Kd.R_slice HO339.out; subst eo59; have hnb60 := NB340_316.out; have hnc60 := NB316_340.out; have hnb61 := NB340_317.out; have hnc61 := NB317_340.out; have hnb62 := NB340_336.out; have hnc62 := NB336_340.out; have hcz63_0 : w58.cell? ⟨gb340, 0, none⟩ = some (.slice none 0 0) := (blk_cell BK340.out 0).trans rfl; have hfz63_0 := blk_frozen BK340.out 0; have hcz64_0 : w58.cell? ⟨gb336, 0, none⟩ = some (.int .i64 t331) := (blk_cell BK336.out 0).trans rfl; have hcz64_1 : w58.cell? ⟨gb336, 1, none⟩ = some (.int .i64 t332) := (blk_cell BK336.out 1).trans rfl; have hcz64_2 : w58.cell? ⟨gb336, 2, none⟩ = some (.slice Ao55 t333.length co55) := (blk_cell BK336.out 2).trans rfl; have hfz64_0 := blk_frozen BK336.out 0; have hfz64_1 := blk_frozen BK336.out 1; have hfz64_2 := blk_frozen BK336.out 2) | ((with_reducible refine gate_callee (f := 26) rfl ?_); refine goesL_ (some 35) rfl rfl Try.func26 (by kernel_rfl) rfl #[.agg #[.int .i64 t331, .int .i64 t332, .slice Ao55 t333.length co55], .agg #[.slice Ao59 t337.length co59]] rfl (by (try simp only [List.map_toArray, List.map_cons, List.map_nil]); first | done | rfl | (simp only [List.length_drop, List.length_take]; rfl)) ?_; (with_reducible refine (impl_TurnsOf.calls k t331 t332 _ _ t333 _ _ t337 t341 _ ?side1 ?side2 ?side3 ?side4 A24.out).mono ?_); (case side1 => refine (Kd.R_reads' (e := 3) (base := w.heap.size) (ok := fun k_ => ((((True ∧ some k_ ≠ (.slice Ao46 t322.length co46 : Value).ownBlock) ∧ some k_ ≠ (.slice Ao47 t325.length co47 : Value).ownBlock) ∧ some k_ ≠ (v329 : Value).ownBlock) ∧ some k_ ≠ (.slice Ao59 t337.length co59 : Value).ownBlock)) (n := t333.length) (c := co55) ?_).2.2; exact (by (with_reducible repeat (first | apply Kd.R_alloc | apply Kd.R_drewN | apply Kd.R_drew)); exact (Kd.R_mono (Kd.R_far (p := ⟨gb340, 0, none⟩) (Kd.R_types HO335.out BK340.out (by decide)) (fun _ hk => by first | exact hk.2 | (simp_all; done) | grind) (.slice Ao59 t337.length co59)) (fun _ h_ => h_.1)))); (case side2 => exact (Kd.R_reads' HO335.out).2.1); (case side3 => refine (Kd.R_reads' (e := 3) (base := w.heap.size) (ok := fun k_ => ((((True ∧ some k_ ≠ (.slice Ao46 t322.length co46 : Value).ownBlock) ∧ some k_ ≠ (.slice Ao47 t325.length co47 : Value).ownBlock) ∧ some k_ ≠ (v329 : Value).ownBlock) ∧ some k_ ≠ (.slice Ao55 t333.length co55 : Value).ownBlock)) (n := t337.length) (c := co59) ?_).2.2; exact (by (with_reducible repeat (first | apply Kd.R_alloc | apply Kd.R_drewN | apply Kd.R_drew)); exact (Kd.R_mono (Kd.R_far (p := ⟨gb340, 0, none⟩) (Kd.R_types HO339.out BK340.out (by decide)) (fun _ hk => by first | exact hk.2 | (simp_all; done) | grind) (.slice Ao59 t337.length co59)) (fun _ h_ => h_.1)))); (case side4 => exact (Kd.R_reads' HO339.out).2.1); rintro e w65 ⟨v342, rfl, ho0, hb⟩; refine ⟨_, rfl, ?_⟩; have n0_ := Aside0.mk (Kd.R_elder' (by (with_reducible repeat (first | apply Kd.R_alloc | apply Kd.R_drewN | apply Kd.R_drew)); exact (Kd.R_mono (Kd.R_far (p := ⟨gb340, 0, none⟩) (Kd.R_types HO324.out BK340.out (by decide)) (fun _ hk => by first | exact hk.2 | (simp_all; done) | grind) (.slice Ao59 t337.length co59)) (fun _ h_ => h_.1))) (Kd.R_base ho0) hb); have n1_ := Aside0.mk (Kd.R_elder' (by (with_reducible repeat (first | apply Kd.R_alloc | apply Kd.R_drewN | apply Kd.R_drew)); exact (Kd.R_mono (Kd.R_far (p := ⟨gb340, 0, none⟩) (Kd.R_types HO327.out BK340.out (by decide)) (fun _ hk => by first | exact hk.2 | (simp_all; done) | grind) (.slice Ao59 t337.length co59)) (fun _ h_ => h_.1))) (Kd.R_base ho0) hb); have n2_ := Aside0.mk (Kd.R_elder' (by (with_reducible repeat (first | apply Kd.R_alloc | apply Kd.R_drewN | apply Kd.R_drew)); exact (Kd.R_mono (Kd.R_far (p := ⟨gb340, 0, none⟩) (Kd.R_types HO330.out BK340.out (by decide)) (fun _ hk => by first | exact hk.2 | (simp_all; done) | grind) (.slice Ao59 t337.length co59)) (fun _ h_ => h_.1))) (Kd.R_base ho0) hb); have n3_ := Aside0.mk (Kd.R_elder' (by (with_reducible repeat (first | apply Kd.R_alloc | apply Kd.R_drewN | apply Kd.R_drew)); exact (Kd.R_mono (Kd.R_far (p := ⟨gb340, 0, none⟩) (Kd.R_types HO335.out BK340.out (by decide)) (fun _ hk => by first | exact hk.2 | (simp_all; done) | grind) (.slice Ao59 t337.length co59)) (fun _ h_ => h_.1))) (Kd.R_base ho0) hb); have n4_ := Aside0.mk (Kd.R_elder' (by (with_reducible repeat (first | apply Kd.R_alloc | apply Kd.R_drewN | apply Kd.R_drew)); exact (Kd.R_mono (Kd.R_far (p := ⟨gb340, 0, none⟩) (Kd.R_types HO339.out BK340.out (by decide)) (fun _ hk => by first | exact hk.2 | (simp_all; done) | grind) (.slice Ao59 t337.length co59)) (fun _ h_ => h_.1))) (Kd.R_base ho0) hb); have n5_ := Aside0.mk (Kd.R_lower (Kd.R_new' (Kd.R_new' (Kd.R_new' (Kd.R_new' (Kd.R_new' ho0 (Kd.R_lt (by (with_reducible repeat (first | apply Kd.R_alloc | apply Kd.R_drewN | apply Kd.R_drew)); exact (Kd.R_mono (Kd.R_far (p := ⟨gb340, 0, none⟩) (Kd.R_types HO324.out BK340.out (by decide)) (fun _ hk => by first | exact hk.2 | (simp_all; done) | grind) (.slice Ao59 t337.length co59)) (fun _ h_ => h_.1))))) (Kd.R_lt (by (with_reducible repeat (first | apply Kd.R_alloc | apply Kd.R_drewN | apply Kd.R_drew)); exact (Kd.R_mono (Kd.R_far (p := ⟨gb340, 0, none⟩) (Kd.R_types HO327.out BK340.out (by decide)) (fun _ hk => by first | exact hk.2 | (simp_all; done) | grind) (.slice Ao59 t337.length co59)) (fun _ h_ => h_.1))))) (Kd.R_lt (by (with_reducible repeat (first | apply Kd.R_alloc | apply Kd.R_drewN | apply Kd.R_drew)); exact (Kd.R_mono (Kd.R_far (p := ⟨gb340, 0, none⟩) (Kd.R_types HO330.out BK340.out (by decide)) (fun _ hk => by first | exact hk.2 | (simp_all; done) | grind) (.slice Ao59 t337.length co59)) (fun _ h_ => h_.1))))) (Kd.R_lt (by (with_reducible repeat (first | apply Kd.R_alloc | apply Kd.R_drewN | apply Kd.R_drew)); exact (Kd.R_mono (Kd.R_far (p := ⟨gb340, 0, none⟩) (Kd.R_types HO335.out BK340.out (by decide)) (fun _ hk => by first | exact hk.2 | (simp_all; done) | grind) (.slice Ao59 t337.length co59)) (fun _ h_ => h_.1))))) (Kd.R_lt (by (with_reducible repeat (first | apply Kd.R_alloc | apply Kd.R_drewN | apply Kd.R_drew)); exact (Kd.R_mono (Kd.R_far (p := ⟨gb340, 0, none⟩) (Kd.R_types HO339.out BK340.out (by decide)) (fun _ hk => by first | exact hk.2 | (simp_all; done) | grind) (.slice Ao59 t337.length co59)) (fun _ h_ => h_.1))))) (below_size (by repeat (first | (with_reducible first | exact HB.out | apply below_alloc | apply pw_below_drewN | apply below_drew1 | refine below_set ?_ GE316.out | refine below_set ?_ GE317.out | refine below_set ?_ GE336.out | refine below_set ?_ GE340.out) | exact HB.out)))); have n6_ := Aside0.mk (blk_below (g := gb316) (o := .cells #[.int .i64 a0_0, .int .i64 a0_1, .slice A0_2 l0_2.length c0_2] 26 (0, 0)) (by (with_reducible repeat (first | refine blk_drewN ?_ _ | refine blk_drew ?_ | refine blk_alloc ?_ _)); refine blk_far ?_ NB316_340.out _; (with_reducible repeat (first | refine blk_drewN ?_ _ | refine blk_drew ?_ | refine blk_alloc ?_ _)); exact BK316.out) hb); have n7_ := Aside0.mk (blk_below (g := gb317) (o := .cells #[.slice A1_0 l1_0.length c1_0] 28 (0, 0)) (by (with_reducible repeat (first | refine blk_drewN ?_ _ | refine blk_drew ?_ | refine blk_alloc ?_ _)); refine blk_far ?_ NB317_340.out _; (with_reducible repeat (first | refine blk_drewN ?_ _ | refine blk_drew ?_ | refine blk_alloc ?_ _)); exact BK317.out) hb); have n8_ := Aside0.mk (blk_below (g := gb336) (o := .cells #[.int .i64 t331, .int .i64 t332, .slice Ao55 t333.length co55] 34 (0, 0)) (by (with_reducible repeat (first | refine blk_drewN ?_ _ | refine blk_drew ?_ | refine blk_alloc ?_ _)); refine blk_far ?_ NB336_340.out _; (with_reducible repeat (first | refine blk_drewN ?_ _ | refine blk_drew ?_ | refine blk_alloc ?_ _)); exact BK336.out) hb); have n9_ := Aside0.mk (blk_below (g := gb340) (o := .cells #[.slice Ao59 t337.length co59] 36 (0, 0)) (by (with_reducible repeat (first | refine blk_drewN ?_ _ | refine blk_drew ?_ | refine blk_alloc ?_ _)); refine blk_put (cs := #[.slice none 0 0]) ?_ 0 _ rfl; (with_reducible repeat (first | refine blk_drewN ?_ _ | refine blk_drew ?_ | refine blk_alloc ?_ _)); exact BK340.out) hb); have n10_ := Aside0.mk (below_step (by repeat (first | (with_reducible first | exact HB.out | apply below_alloc | apply pw_below_drewN | apply below_drew1 | refine below_set ?_ GE316.out | refine below_set ?_ GE317.out | refine below_set ?_ GE336.out | refine below_set ?_ GE340.out) | exact HB.out)) hb); clear HO324; clear HO327; clear HO330; clear HO335; clear HO339; clear BK316; clear BK317; clear BK336; clear BK340; clear HB; have HO324 := n0_; have HO327 := n1_; have HO330 := n2_; have HO335 := n3_; have HO339 := n4_; have HO343 := n5_; have BK316 := n6_; have BK317 := n7_; have BK336 := n8_; have BK340 := n9_; have HB := n10_; clear n0_ n1_ n2_ n3_ n4_ n5_ n6_ n7_ n8_ n9_ n10_; (try clear hb); (try clear hb2); (try clear hk); (try clear hi); (try clear ho0); obtain ⟨Ao66, co66, eo66⟩ := Kd.R_slice HO343.out; subst eo66; obtain ⟨Ao67, co67, eo67⟩ := Kd.R_slice HO330.out; subst eo67) | ((with_reducible refine gate_callee (f := 24) rfl ?_); refine goesL_ (some 38) rfl rfl Try.func24 (by kernel_rfl) rfl #[.slice Ao66 t341.length co66, .slice Ao67 t328.length co67] rfl (by (try simp only [List.map_toArray, List.map_cons, List.map_nil]); first | done | rfl | (simp only [List.length_drop, List.length_take]; rfl)) ?_; (with_reducible refine (laws_eqIntS.calls k _ _ t341 _ _ t328 true _ ?side1 ?side2 ?side3 ?side4 A25.out).mono ?_); (case side1 => repeat (first | exact (Kd.R_reads' HO343.out).2.2 | (with_reducible refine Kd.C_alloc ?_ _) | (with_reducible refine Kd.C_drewN ?_ _) | (with_reducible refine Kd.C_drew ?_))); (case side2 => exact (Kd.R_reads' HO343.out).2.1); (case side3 => repeat (first | exact (Kd.R_reads' HO330.out).2.2 | (with_reducible refine Kd.C_alloc ?_ _) | (with_reducible refine Kd.C_drewN ?_ _) | (with_reducible refine Kd.C_drew ?_))); (case side4 => exact (Kd.R_reads' HO330.out).2.1); rintro e w' ⟨rfl, ⟨nd, rfl⟩⟩; refine ⟨_, rfl, ?_⟩))
            (try (rw [drewN_self w65]; generalize hq_ : World.drewN w65 _ = w65; have n0_ : Aside0 (Kd.R (Kd.int .i64) 3 w65 w.heap.size (fun k_ => some k_ ≠ (.slice Ao47 t325.length co47 : Value).ownBlock ∧ some k_ ≠ (.slice Ao67 t328.length co67 : Value).ownBlock ∧ some k_ ≠ (.slice Ao55 t333.length co55 : Value).ownBlock ∧ some k_ ≠ (.slice Ao59 t337.length co59 : Value).ownBlock ∧ some k_ ≠ (.slice Ao66 t341.length co66 : Value).ownBlock) (.slice Ao46 t322.length co46) t322) := ⟨by rw [← hq_]; exact (by (with_reducible repeat (first | apply Kd.R_alloc | apply Kd.R_drewN | apply Kd.R_drew)); exact Kd.R_mono HO324.out (fun _ hk => ⟨hk.1.1.1.1.2, ⟨hk.1.1.1.2, ⟨hk.1.1.2, ⟨hk.1.2, hk.2⟩⟩⟩⟩))⟩; have n1_ : Aside0 (Kd.R (Kd.int .i64) 3 w65 w.heap.size (fun k_ => some k_ ≠ (.slice Ao46 t322.length co46 : Value).ownBlock ∧ some k_ ≠ (.slice Ao67 t328.length co67 : Value).ownBlock ∧ some k_ ≠ (.slice Ao55 t333.length co55 : Value).ownBlock ∧ some k_ ≠ (.slice Ao59 t337.length co59 : Value).ownBlock ∧ some k_ ≠ (.slice Ao66 t341.length co66 : Value).ownBlock) (.slice Ao47 t325.length co47) t325) := ⟨by rw [← hq_]; exact (by (with_reducible repeat (first | apply Kd.R_alloc | apply Kd.R_drewN | apply Kd.R_drew)); exact Kd.R_mono HO327.out (fun _ hk => ⟨hk.1.1.1.1.2, ⟨hk.1.1.1.2, ⟨hk.1.1.2, ⟨hk.1.2, hk.2⟩⟩⟩⟩))⟩; have n2_ : Aside0 (Kd.R (Kd.int .i64) 3 w65 w.heap.size (fun k_ => some k_ ≠ (.slice Ao46 t322.length co46 : Value).ownBlock ∧ some k_ ≠ (.slice Ao47 t325.length co47 : Value).ownBlock ∧ some k_ ≠ (.slice Ao55 t333.length co55 : Value).ownBlock ∧ some k_ ≠ (.slice Ao59 t337.length co59 : Value).ownBlock ∧ some k_ ≠ (.slice Ao66 t341.length co66 : Value).ownBlock) (.slice Ao67 t328.length co67) t328) := ⟨by rw [← hq_]; exact (by (with_reducible repeat (first | apply Kd.R_alloc | apply Kd.R_drewN | apply Kd.R_drew)); exact Kd.R_mono HO330.out (fun _ hk => ⟨hk.1.1.1.1.2, ⟨hk.1.1.1.2, ⟨hk.1.1.2, ⟨hk.1.2, hk.2⟩⟩⟩⟩))⟩; have n3_ : Aside0 (Kd.R (Kd.int .i64) 3 w65 w.heap.size (fun k_ => some k_ ≠ (.slice Ao46 t322.length co46 : Value).ownBlock ∧ some k_ ≠ (.slice Ao47 t325.length co47 : Value).ownBlock ∧ some k_ ≠ (.slice Ao67 t328.length co67 : Value).ownBlock ∧ some k_ ≠ (.slice Ao59 t337.length co59 : Value).ownBlock ∧ some k_ ≠ (.slice Ao66 t341.length co66 : Value).ownBlock) (.slice Ao55 t333.length co55) t333) := ⟨by rw [← hq_]; exact (by (with_reducible repeat (first | apply Kd.R_alloc | apply Kd.R_drewN | apply Kd.R_drew)); exact Kd.R_mono HO335.out (fun _ hk => ⟨hk.1.1.1.1.2, ⟨hk.1.1.1.2, ⟨hk.1.1.2, ⟨hk.1.2, hk.2⟩⟩⟩⟩))⟩; have n4_ : Aside0 (Kd.R (Kd.int .i64) 3 w65 w.heap.size (fun k_ => some k_ ≠ (.slice Ao46 t322.length co46 : Value).ownBlock ∧ some k_ ≠ (.slice Ao47 t325.length co47 : Value).ownBlock ∧ some k_ ≠ (.slice Ao67 t328.length co67 : Value).ownBlock ∧ some k_ ≠ (.slice Ao55 t333.length co55 : Value).ownBlock ∧ some k_ ≠ (.slice Ao66 t341.length co66 : Value).ownBlock) (.slice Ao59 t337.length co59) t337) := ⟨by rw [← hq_]; exact (by (with_reducible repeat (first | apply Kd.R_alloc | apply Kd.R_drewN | apply Kd.R_drew)); exact Kd.R_mono HO339.out (fun _ hk => ⟨hk.1.1.1.1.2, ⟨hk.1.1.1.2, ⟨hk.1.1.2, ⟨hk.1.2, hk.2⟩⟩⟩⟩))⟩; have n5_ : Aside0 (Kd.R (Kd.int .i64) 3 w65 w.heap.size (fun k_ => some k_ ≠ (.slice Ao46 t322.length co46 : Value).ownBlock ∧ some k_ ≠ (.slice Ao47 t325.length co47 : Value).ownBlock ∧ some k_ ≠ (.slice Ao67 t328.length co67 : Value).ownBlock ∧ some k_ ≠ (.slice Ao55 t333.length co55 : Value).ownBlock ∧ some k_ ≠ (.slice Ao59 t337.length co59 : Value).ownBlock) (.slice Ao66 t341.length co66) t341) := ⟨by rw [← hq_]; exact (by (with_reducible repeat (first | apply Kd.R_alloc | apply Kd.R_drewN | apply Kd.R_drew)); exact Kd.R_mono HO343.out (fun _ hk => ⟨hk.1.1.1.1.2, ⟨hk.1.1.1.2, ⟨hk.1.1.2, ⟨hk.1.2, hk.2⟩⟩⟩⟩))⟩; have n6_ : Aside0 (w65.heap[gb316]? = some (.cells #[.int .i64 a0_0, .int .i64 a0_1, .slice A0_2 l0_2.length c0_2] 26 (0, 0))) := ⟨by rw [← hq_]; exact (by (with_reducible repeat (first | refine blk_drewN ?_ _ | refine blk_drew ?_ | refine blk_alloc ?_ _)); exact BK316.out)⟩; have n7_ : Aside0 (w65.heap[gb317]? = some (.cells #[.slice A1_0 l1_0.length c1_0] 28 (0, 0))) := ⟨by rw [← hq_]; exact (by (with_reducible repeat (first | refine blk_drewN ?_ _ | refine blk_drew ?_ | refine blk_alloc ?_ _)); exact BK317.out)⟩; have n8_ : Aside0 (w65.heap[gb336]? = some (.cells #[.int .i64 t331, .int .i64 t332, .slice Ao55 t333.length co55] 34 (0, 0))) := ⟨by rw [← hq_]; exact (by (with_reducible repeat (first | refine blk_drewN ?_ _ | refine blk_drew ?_ | refine blk_alloc ?_ _)); exact BK336.out)⟩; have n9_ : Aside0 (w65.heap[gb340]? = some (.cells #[.slice Ao59 t337.length co59] 36 (0, 0))) := ⟨by rw [← hq_]; exact (by (with_reducible repeat (first | refine blk_drewN ?_ _ | refine blk_drew ?_ | refine blk_alloc ?_ _)); exact BK340.out)⟩; have n10_ : Aside0 (Below w.heap.size w w65) := ⟨by rw [← hq_]; exact (by repeat (first | (with_reducible first | exact HB.out | apply below_alloc | apply pw_below_drewN | apply below_drew1 | refine below_set ?_ GE316.out | refine below_set ?_ GE317.out | refine below_set ?_ GE336.out | refine below_set ?_ GE340.out) | exact HB.out))⟩; clear HO324 HO327 HO330 HO335 HO339 HO343 BK316 BK317 BK336 BK340 HB hq_; have HO324 := n0_; have HO327 := n1_; have HO330 := n2_; have HO335 := n3_; have HO339 := n4_; have HO343 := n5_; have BK316 := n6_; have BK317 := n7_; have BK336 := n8_; have BK340 := n9_; have HB := n10_; clear n0_ n1_ n2_ n3_ n4_ n5_ n6_ n7_ n8_ n9_ n10_))
            have n0_ := Aside0.mk (Kd.R_drew HO324.out)
            have n1_ := Aside0.mk (Kd.R_drew HO327.out)
            have n2_ := Aside0.mk (Kd.R_drew HO330.out)
            have n3_ := Aside0.mk (Kd.R_drew HO335.out)
            have n4_ := Aside0.mk (Kd.R_drew HO339.out)
            have n5_ := Aside0.mk (Kd.R_drew HO343.out)
            have n6_ := Aside0.mk (blk_drew BK316.out)
            have n7_ := Aside0.mk (blk_drew BK317.out)
            have n8_ := Aside0.mk (blk_drew BK336.out)
            have n9_ := Aside0.mk (blk_drew BK340.out)
            have n10_ := Aside0.mk (below_drew1 HB.out)
            clear HO324
            clear HO327
            clear HO330
            clear HO335
            clear HO339
            clear HO343
            clear BK316
            clear BK317
            clear BK336
            clear BK340
            clear HB
            have HO324 := n0_
            have HO327 := n1_
            have HO330 := n2_
            have HO335 := n3_
            have HO339 := n4_
            have HO343 := n5_
            have BK316 := n6_
            have BK317 := n7_
            have BK336 := n8_
            have BK340 := n9_
            have HB := n10_
            clear n0_ n1_ n2_ n3_ n4_ n5_ n6_ n7_ n8_ n9_ n10_
            refine start_ (n := 5) (S := fun w' => w'.cell? ⟨gb336, 0, none⟩ = some (.int .i64 t331) ∧ w'.cell? ⟨gb336, 1, none⟩ = some (.int .i64 t332) ∧ w'.cell? ⟨gb336, 2, none⟩ = some (.slice Ao55 t333.length co55) ∧ w'.cell? ⟨gb316, 0, none⟩ = some (.int .i64 a0_0) ∧ w'.cell? ⟨gb316, 1, none⟩ = some (.int .i64 a0_1) ∧ w'.cell? ⟨gb316, 2, none⟩ = some (.slice A0_2 l0_2.length c0_2)) (ds := []) #[false, false, false, false, false] (by kernel_rfl) rfl rfl ⟨(blk_cell BK336.out 0).trans rfl, (blk_cell BK336.out 1).trans rfl, (blk_cell BK336.out 2).trans rfl, (blk_cell BK316.out 0).trans rfl, (blk_cell BK316.out 1).trans rfl, (blk_cell BK316.out 2).trans rfl⟩ (fun hHeld => ?_)
            generalize w65.drew = w68 at HO324 HO327 HO330 HO335 HO339 HO343 BK316 BK317 BK336 BK340 HB hHeld ⊢
            refine take_ (i := 0) (N := some 40) (v := ?_) (a' := ?_) #[true, false, false, false, false] rfl rfl (by kernel_rfl) (fun _ _ _ h => h) (Or.inl ⟨by rfl, ?_⟩) hHeld ?_ ?_
            rotate_left
            · rintro w' ⟨s0, s1, s2, s3, s4, s5⟩
              go_simp
              with_reducible rfl
            rotate_left
            · simp only [Act.put, List.setIfInBounds_toArray, List.set_cons_zero, List.set_cons_succ, i64_w, i32_w]
              rfl
            refine take_ (i := 1) (N := some 41) (v := ?_) (a' := ?_) #[true, true, false, false, false] rfl rfl (by kernel_rfl) (fun _ _ _ h => h) (Or.inl ⟨by rfl, ?_⟩) hHeld ?_ ?_
            rotate_left
            · rintro w' ⟨s0, s1, s2, s3, s4, s5⟩
              go_simp
              with_reducible rfl
            rotate_left
            · simp only [Act.put, List.setIfInBounds_toArray, List.set_cons_zero, List.set_cons_succ, i64_w, i32_w]
              rfl
            refine one_ (i := 2) (N := some 42) #[true, true, true, false, false] rfl rfl (by kernel_rfl) (by decide) (fun K hK => ?_)
            refine goes_ Try.func18 (by kernel_rfl) rfl #[.agg #[.int .i64 a0_0, .int .i64 a0_1, .slice A0_2 l0_2.length c0_2]] (by rfl) rfl rfl (by (try simp only [List.map_toArray, List.map_cons, List.map_nil]); first | done | rfl | (simp only [List.length_drop, List.length_take]; rfl)) ?_
            with_reducible refine (laws_toMesh.calls k a0_0 a0_1 _ _ l0_2 t345 t346 t347 _ ?side1 ?side2 A27.out).mono ?_
            (case side1 => repeat (first | exact (Kd.C_below HR0_2.out HB.out) | (with_reducible refine Kd.C_alloc ?_ _) | (with_reducible refine Kd.C_drewN ?_ _) | (with_reducible refine Kd.C_drew ?_)))
            (case side2 => exact HC0_2.out)
            rintro e w69 ⟨v348, rfl, ho0, hb⟩
            refine ⟨_, rfl, ?_⟩
            have n0_ := Aside0.mk (Kd.R_elder' (by (with_reducible repeat (first | apply Kd.R_alloc | apply Kd.R_drewN | apply Kd.R_drew)); exact HO324.out) (Kd.R_base ho0) hb)
            have n1_ := Aside0.mk (Kd.R_elder' (by (with_reducible repeat (first | apply Kd.R_alloc | apply Kd.R_drewN | apply Kd.R_drew)); exact HO327.out) (Kd.R_base ho0) hb)
            have n2_ := Aside0.mk (Kd.R_elder' (by (with_reducible repeat (first | apply Kd.R_alloc | apply Kd.R_drewN | apply Kd.R_drew)); exact HO330.out) (Kd.R_base ho0) hb)
            have n3_ := Aside0.mk (Kd.R_elder' (by (with_reducible repeat (first | apply Kd.R_alloc | apply Kd.R_drewN | apply Kd.R_drew)); exact HO335.out) (Kd.R_base ho0) hb)
            have n4_ := Aside0.mk (Kd.R_elder' (by (with_reducible repeat (first | apply Kd.R_alloc | apply Kd.R_drewN | apply Kd.R_drew)); exact HO339.out) (Kd.R_base ho0) hb)
            have n5_ := Aside0.mk (Kd.R_elder' (by (with_reducible repeat (first | apply Kd.R_alloc | apply Kd.R_drewN | apply Kd.R_drew)); exact HO343.out) (Kd.R_base ho0) hb)
            have n6_ := Aside0.mk (Kd.R_lower (Kd.R_new' (Kd.R_new' (Kd.R_new' (Kd.R_new' (Kd.R_new' (Kd.R_new' ho0 (Kd.R_lt (by (with_reducible repeat (first | apply Kd.R_alloc | apply Kd.R_drewN | apply Kd.R_drew)); exact HO324.out))) (Kd.R_lt (by (with_reducible repeat (first | apply Kd.R_alloc | apply Kd.R_drewN | apply Kd.R_drew)); exact HO327.out))) (Kd.R_lt (by (with_reducible repeat (first | apply Kd.R_alloc | apply Kd.R_drewN | apply Kd.R_drew)); exact HO330.out))) (Kd.R_lt (by (with_reducible repeat (first | apply Kd.R_alloc | apply Kd.R_drewN | apply Kd.R_drew)); exact HO335.out))) (Kd.R_lt (by (with_reducible repeat (first | apply Kd.R_alloc | apply Kd.R_drewN | apply Kd.R_drew)); exact HO339.out))) (Kd.R_lt (by (with_reducible repeat (first | apply Kd.R_alloc | apply Kd.R_drewN | apply Kd.R_drew)); exact HO343.out))) (below_size (by repeat (first | (with_reducible first | exact HB.out | apply below_alloc | apply pw_below_drewN | apply below_drew1 | refine below_set ?_ GE316.out | refine below_set ?_ GE317.out | refine below_set ?_ GE336.out | refine below_set ?_ GE340.out) | exact HB.out))))
            have n7_ := Aside0.mk (blk_below (g := gb316) (o := .cells #[.int .i64 a0_0, .int .i64 a0_1, .slice A0_2 l0_2.length c0_2] 26 (0, 0)) (by (with_reducible repeat (first | refine blk_drewN ?_ _ | refine blk_drew ?_ | refine blk_alloc ?_ _)); exact BK316.out) hb)
            have n8_ := Aside0.mk (blk_below (g := gb317) (o := .cells #[.slice A1_0 l1_0.length c1_0] 28 (0, 0)) (by (with_reducible repeat (first | refine blk_drewN ?_ _ | refine blk_drew ?_ | refine blk_alloc ?_ _)); exact BK317.out) hb)
            have n9_ := Aside0.mk (blk_below (g := gb336) (o := .cells #[.int .i64 t331, .int .i64 t332, .slice Ao55 t333.length co55] 34 (0, 0)) (by (with_reducible repeat (first | refine blk_drewN ?_ _ | refine blk_drew ?_ | refine blk_alloc ?_ _)); exact BK336.out) hb)
            have n10_ := Aside0.mk (blk_below (g := gb340) (o := .cells #[.slice Ao59 t337.length co59] 36 (0, 0)) (by (with_reducible repeat (first | refine blk_drewN ?_ _ | refine blk_drew ?_ | refine blk_alloc ?_ _)); exact BK340.out) hb)
            have n11_ := Aside0.mk (below_step (by repeat (first | (with_reducible first | exact HB.out | apply below_alloc | apply pw_below_drewN | apply below_drew1 | refine below_set ?_ GE316.out | refine below_set ?_ GE317.out | refine below_set ?_ GE336.out | refine below_set ?_ GE340.out) | exact HB.out)) hb)
            clear HO324
            clear HO327
            clear HO330
            clear HO335
            clear HO339
            clear HO343
            clear BK316
            clear BK317
            clear BK336
            clear BK340
            clear HB
            have HO324 := n0_
            have HO327 := n1_
            have HO330 := n2_
            have HO335 := n3_
            have HO339 := n4_
            have HO343 := n5_
            have HO349 := n6_
            have BK316 := n7_
            have BK317 := n8_
            have BK336 := n9_
            have BK340 := n10_
            have HB := n11_
            clear n0_ n1_ n2_ n3_ n4_ n5_ n6_ n7_ n8_ n9_ n10_ n11_
            (try clear hb)
            (try clear hb2)
            (try clear hk)
            (try clear hi)
            (try clear ho0)
            obtain ⟨Ao70, co70, eo70⟩ := Kd.R_slice HO349.out
            (first | subst eo70 | (injection eo70 with f1_ f2_ f3_; have f4_ := f1_.symm; have f5_ := f3_.symm; clear f1_ f2_ f3_; subst f4_; subst f5_))
            refine hK.out _ _ ⟨(blk_cell BK336.out 0).trans rfl, (blk_cell BK336.out 1).trans rfl, (blk_cell BK336.out 2).trans rfl, (blk_cell BK316.out 0).trans rfl, (blk_cell BK316.out 1).trans rfl, (blk_cell BK316.out 2).trans rfl⟩ (fun hHeld => ?_)
            clear hK K
            refine norm_ (a' := ?_) ?_ ?_
            rotate_left
            · show Act.put _ (some 42) _ = _
              simp only [Act.put, List.setIfInBounds_toArray, List.set_cons_zero, List.set_cons_succ, i64_w, i32_w]
              rfl
            refine one_ (i := 3) (N := some 43) #[true, true, true, true, false] rfl rfl (by kernel_rfl) (by decide) (fun K hK => ?_)
            refine goes_ Try.func22 (by kernel_rfl) rfl #[.agg #[.int .i64 t331, .int .i64 t332, .slice Ao55 t333.length co55], .agg #[.int .i64 t345, .int .i64 t346, .slice Ao70 t347.length co70]] (by rfl) rfl rfl (by (try simp only [List.map_toArray, List.map_cons, List.map_nil]); first | done | rfl | (simp only [List.length_drop, List.length_take]; rfl)) ?_
            with_reducible refine (laws_eqMesh.calls k t331 t332 _ _ t333 t345 t346 _ _ t347 true _ ?side1 ?side2 ?side3 ?side4 A28.out).mono ?_
            (case side1 => repeat (first | exact (Kd.R_reads' HO335.out).2.2 | (with_reducible refine Kd.C_alloc ?_ _) | (with_reducible refine Kd.C_drewN ?_ _) | (with_reducible refine Kd.C_drew ?_)))
            (case side2 => exact (Kd.R_reads' HO335.out).2.1)
            (case side3 => repeat (first | exact (Kd.R_reads' HO349.out).2.2 | (with_reducible refine Kd.C_alloc ?_ _) | (with_reducible refine Kd.C_drewN ?_ _) | (with_reducible refine Kd.C_drew ?_)))
            (case side4 => exact (Kd.R_reads' HO349.out).2.1)
            rintro e w71 ⟨rfl, hb⟩
            refine ⟨_, rfl, ?_⟩
            have n0_ := Aside0.mk (Kd.R_below (by (with_reducible repeat (first | apply Kd.R_alloc | apply Kd.R_drewN | apply Kd.R_drew)); exact HO324.out) hb)
            have n1_ := Aside0.mk (Kd.R_below (by (with_reducible repeat (first | apply Kd.R_alloc | apply Kd.R_drewN | apply Kd.R_drew)); exact HO327.out) hb)
            have n2_ := Aside0.mk (Kd.R_below (by (with_reducible repeat (first | apply Kd.R_alloc | apply Kd.R_drewN | apply Kd.R_drew)); exact HO330.out) hb)
            have n3_ := Aside0.mk (Kd.R_below (by (with_reducible repeat (first | apply Kd.R_alloc | apply Kd.R_drewN | apply Kd.R_drew)); exact HO335.out) hb)
            have n4_ := Aside0.mk (Kd.R_below (by (with_reducible repeat (first | apply Kd.R_alloc | apply Kd.R_drewN | apply Kd.R_drew)); exact HO339.out) hb)
            have n5_ := Aside0.mk (Kd.R_below (by (with_reducible repeat (first | apply Kd.R_alloc | apply Kd.R_drewN | apply Kd.R_drew)); exact HO343.out) hb)
            have n6_ := Aside0.mk (Kd.R_below (by (with_reducible repeat (first | apply Kd.R_alloc | apply Kd.R_drewN | apply Kd.R_drew)); exact HO349.out) hb)
            have n7_ := Aside0.mk (blk_below (g := gb316) (o := .cells #[.int .i64 a0_0, .int .i64 a0_1, .slice A0_2 l0_2.length c0_2] 26 (0, 0)) (by (with_reducible repeat (first | refine blk_drewN ?_ _ | refine blk_drew ?_ | refine blk_alloc ?_ _)); exact BK316.out) hb)
            have n8_ := Aside0.mk (blk_below (g := gb317) (o := .cells #[.slice A1_0 l1_0.length c1_0] 28 (0, 0)) (by (with_reducible repeat (first | refine blk_drewN ?_ _ | refine blk_drew ?_ | refine blk_alloc ?_ _)); exact BK317.out) hb)
            have n9_ := Aside0.mk (blk_below (g := gb336) (o := .cells #[.int .i64 t331, .int .i64 t332, .slice Ao55 t333.length co55] 34 (0, 0)) (by (with_reducible repeat (first | refine blk_drewN ?_ _ | refine blk_drew ?_ | refine blk_alloc ?_ _)); exact BK336.out) hb)
            have n10_ := Aside0.mk (blk_below (g := gb340) (o := .cells #[.slice Ao59 t337.length co59] 36 (0, 0)) (by (with_reducible repeat (first | refine blk_drewN ?_ _ | refine blk_drew ?_ | refine blk_alloc ?_ _)); exact BK340.out) hb)
            have n11_ := Aside0.mk (below_step (by repeat (first | (with_reducible first | exact HB.out | apply below_alloc | apply pw_below_drewN | apply below_drew1 | refine below_set ?_ GE316.out | refine below_set ?_ GE317.out | refine below_set ?_ GE336.out | refine below_set ?_ GE340.out) | exact HB.out)) hb)
            clear HO324
            clear HO327
            clear HO330
            clear HO335
            clear HO339
            clear HO343
            clear HO349
            clear BK316
            clear BK317
            clear BK336
            clear BK340
            clear HB
            have HO324 := n0_
            have HO327 := n1_
            have HO330 := n2_
            have HO335 := n3_
            have HO339 := n4_
            have HO343 := n5_
            have HO349 := n6_
            have BK316 := n7_
            have BK317 := n8_
            have BK336 := n9_
            have BK340 := n10_
            have HB := n11_
            clear n0_ n1_ n2_ n3_ n4_ n5_ n6_ n7_ n8_ n9_ n10_ n11_
            (try clear hb)
            (try clear hb2)
            (try clear hk)
            (try clear hi)
            refine hK.out _ _ ⟨(blk_cell BK336.out 0).trans rfl, (blk_cell BK336.out 1).trans rfl, (blk_cell BK336.out 2).trans rfl, (blk_cell BK316.out 0).trans rfl, (blk_cell BK316.out 1).trans rfl, (blk_cell BK316.out 2).trans rfl⟩ (fun hHeld => ?_)
            clear hK K
            refine norm_ (a' := ?_) ?_ ?_
            rotate_left
            · show Act.put _ (some 43) _ = _
              simp only [Act.put, List.setIfInBounds_toArray, List.set_cons_zero, List.set_cons_succ, i64_w, i32_w]
              rfl
            refine pure_ (i := 4) (N := some 44) (v := ?_) (a' := ?_) #[true, true, true, true, true] rfl rfl (by kernel_rfl) (fun _ _ _ h => h) (Or.inl ⟨by rfl, ?_⟩) ?_ ?_
            rotate_left
            · intro w'
              go_simp
              with_reducible rfl
            rotate_left
            · simp only [Act.put, List.setIfInBounds_toArray, List.set_cons_zero, List.set_cons_succ, i64_w, i32_w]
              rfl
            refine done_ (by kernel_rfl) ?_
            try go_wp2
            have n0_ := Aside0.mk (Kd.R_drew HO324.out)
            have n1_ := Aside0.mk (Kd.R_drew HO327.out)
            have n2_ := Aside0.mk (Kd.R_drew HO330.out)
            have n3_ := Aside0.mk (Kd.R_drew HO335.out)
            have n4_ := Aside0.mk (Kd.R_drew HO339.out)
            have n5_ := Aside0.mk (Kd.R_drew HO343.out)
            have n6_ := Aside0.mk (Kd.R_drew HO349.out)
            have n7_ := Aside0.mk (blk_drew BK316.out)
            have n8_ := Aside0.mk (blk_drew BK317.out)
            have n9_ := Aside0.mk (blk_drew BK336.out)
            have n10_ := Aside0.mk (blk_drew BK340.out)
            have n11_ := Aside0.mk (below_drew1 HB.out)
            clear HO324
            clear HO327
            clear HO330
            clear HO335
            clear HO339
            clear HO343
            clear HO349
            clear BK316
            clear BK317
            clear BK336
            clear BK340
            clear HB
            have HO324 := n0_
            have HO327 := n1_
            have HO330 := n2_
            have HO335 := n3_
            have HO339 := n4_
            have HO343 := n5_
            have HO349 := n6_
            have BK316 := n7_
            have BK317 := n8_
            have BK336 := n9_
            have BK340 := n10_
            have HB := n11_
            clear n0_ n1_ n2_ n3_ n4_ n5_ n6_ n7_ n8_ n9_ n10_ n11_
            refine start_ (n := 5) (S := fun w' => w'.cell? ⟨gb340, 0, none⟩ = some (.slice Ao59 t337.length co59) ∧ w'.cell? ⟨gb317, 0, none⟩ = some (.slice A1_0 l1_0.length c1_0)) (ds := []) #[false, false, false, false, false] (by kernel_rfl) rfl rfl ⟨(blk_cell BK340.out 0).trans rfl, (blk_cell BK317.out 0).trans rfl⟩ (fun hHeld => ?_)
            generalize w71.drew = w72 at HO324 HO327 HO330 HO335 HO339 HO343 HO349 BK316 BK317 BK336 BK340 HB hHeld ⊢
            refine take_ (i := 0) (N := some 45) (v := ?_) (a' := ?_) #[true, false, false, false, false] rfl rfl (by kernel_rfl) (fun _ _ _ h => h) (Or.inl ⟨by rfl, ?_⟩) hHeld ?_ ?_
            rotate_left
            · rintro w' ⟨s0, s1⟩
              go_simp
              with_reducible rfl
            rotate_left
            · simp only [Act.put, List.setIfInBounds_toArray, List.set_cons_zero, List.set_cons_succ, i64_w, i32_w]
              rfl
            refine take_ (i := 1) (N := some 46) (v := ?_) (a' := ?_) #[true, true, false, false, false] rfl rfl (by kernel_rfl) (fun _ _ _ h => h) (Or.inl ⟨by rfl, ?_⟩) hHeld ?_ ?_
            rotate_left
            · rintro w' ⟨s0, s1⟩
              go_simp
              with_reducible rfl
            rotate_left
            · simp only [Act.put, List.setIfInBounds_toArray, List.set_cons_zero, List.set_cons_succ, i64_w, i32_w]
              rfl
            refine one_ (i := 2) (N := some 47) #[true, true, true, false, false] rfl rfl (by kernel_rfl) (by decide) (fun K hK => ?_)
            refine goes_ Try.func19 (by kernel_rfl) rfl #[.agg #[.slice A1_0 l1_0.length c1_0]] (by rfl) rfl rfl (by (try simp only [List.map_toArray, List.map_cons, List.map_nil]); first | done | rfl | (simp only [List.length_drop, List.length_take]; rfl)) ?_
            with_reducible refine (laws_toTable.calls k _ _ l1_0 t351 _ ?side1 ?side2 A30.out).mono ?_
            (case side1 => repeat (first | exact (Kd.C_below HR1_0.out HB.out) | (with_reducible refine Kd.C_alloc ?_ _) | (with_reducible refine Kd.C_drewN ?_ _) | (with_reducible refine Kd.C_drew ?_)))
            (case side2 => exact HC1_0.out)
            rintro e w73 ⟨v352, rfl, ho0, hb⟩
            refine ⟨_, rfl, ?_⟩
            have n0_ := Aside0.mk (Kd.R_elder' (by (with_reducible repeat (first | apply Kd.R_alloc | apply Kd.R_drewN | apply Kd.R_drew)); exact HO324.out) (Kd.R_base ho0) hb)
            have n1_ := Aside0.mk (Kd.R_elder' (by (with_reducible repeat (first | apply Kd.R_alloc | apply Kd.R_drewN | apply Kd.R_drew)); exact HO327.out) (Kd.R_base ho0) hb)
            have n2_ := Aside0.mk (Kd.R_elder' (by (with_reducible repeat (first | apply Kd.R_alloc | apply Kd.R_drewN | apply Kd.R_drew)); exact HO330.out) (Kd.R_base ho0) hb)
            have n3_ := Aside0.mk (Kd.R_elder' (by (with_reducible repeat (first | apply Kd.R_alloc | apply Kd.R_drewN | apply Kd.R_drew)); exact HO335.out) (Kd.R_base ho0) hb)
            have n4_ := Aside0.mk (Kd.R_elder' (by (with_reducible repeat (first | apply Kd.R_alloc | apply Kd.R_drewN | apply Kd.R_drew)); exact HO339.out) (Kd.R_base ho0) hb)
            have n5_ := Aside0.mk (Kd.R_elder' (by (with_reducible repeat (first | apply Kd.R_alloc | apply Kd.R_drewN | apply Kd.R_drew)); exact HO343.out) (Kd.R_base ho0) hb)
            have n6_ := Aside0.mk (Kd.R_elder' (by (with_reducible repeat (first | apply Kd.R_alloc | apply Kd.R_drewN | apply Kd.R_drew)); exact HO349.out) (Kd.R_base ho0) hb)
            have n7_ := Aside0.mk (Kd.R_lower (Kd.R_new' (Kd.R_new' (Kd.R_new' (Kd.R_new' (Kd.R_new' (Kd.R_new' (Kd.R_new' ho0 (Kd.R_lt (by (with_reducible repeat (first | apply Kd.R_alloc | apply Kd.R_drewN | apply Kd.R_drew)); exact HO324.out))) (Kd.R_lt (by (with_reducible repeat (first | apply Kd.R_alloc | apply Kd.R_drewN | apply Kd.R_drew)); exact HO327.out))) (Kd.R_lt (by (with_reducible repeat (first | apply Kd.R_alloc | apply Kd.R_drewN | apply Kd.R_drew)); exact HO330.out))) (Kd.R_lt (by (with_reducible repeat (first | apply Kd.R_alloc | apply Kd.R_drewN | apply Kd.R_drew)); exact HO335.out))) (Kd.R_lt (by (with_reducible repeat (first | apply Kd.R_alloc | apply Kd.R_drewN | apply Kd.R_drew)); exact HO339.out))) (Kd.R_lt (by (with_reducible repeat (first | apply Kd.R_alloc | apply Kd.R_drewN | apply Kd.R_drew)); exact HO343.out))) (Kd.R_lt (by (with_reducible repeat (first | apply Kd.R_alloc | apply Kd.R_drewN | apply Kd.R_drew)); exact HO349.out))) (below_size (by repeat (first | (with_reducible first | exact HB.out | apply below_alloc | apply pw_below_drewN | apply below_drew1 | refine below_set ?_ GE316.out | refine below_set ?_ GE317.out | refine below_set ?_ GE336.out | refine below_set ?_ GE340.out) | exact HB.out))))
            have n8_ := Aside0.mk (blk_below (g := gb316) (o := .cells #[.int .i64 a0_0, .int .i64 a0_1, .slice A0_2 l0_2.length c0_2] 26 (0, 0)) (by (with_reducible repeat (first | refine blk_drewN ?_ _ | refine blk_drew ?_ | refine blk_alloc ?_ _)); exact BK316.out) hb)
            have n9_ := Aside0.mk (blk_below (g := gb317) (o := .cells #[.slice A1_0 l1_0.length c1_0] 28 (0, 0)) (by (with_reducible repeat (first | refine blk_drewN ?_ _ | refine blk_drew ?_ | refine blk_alloc ?_ _)); exact BK317.out) hb)
            have n10_ := Aside0.mk (blk_below (g := gb336) (o := .cells #[.int .i64 t331, .int .i64 t332, .slice Ao55 t333.length co55] 34 (0, 0)) (by (with_reducible repeat (first | refine blk_drewN ?_ _ | refine blk_drew ?_ | refine blk_alloc ?_ _)); exact BK336.out) hb)
            have n11_ := Aside0.mk (blk_below (g := gb340) (o := .cells #[.slice Ao59 t337.length co59] 36 (0, 0)) (by (with_reducible repeat (first | refine blk_drewN ?_ _ | refine blk_drew ?_ | refine blk_alloc ?_ _)); exact BK340.out) hb)
            have n12_ := Aside0.mk (below_step (by repeat (first | (with_reducible first | exact HB.out | apply below_alloc | apply pw_below_drewN | apply below_drew1 | refine below_set ?_ GE316.out | refine below_set ?_ GE317.out | refine below_set ?_ GE336.out | refine below_set ?_ GE340.out) | exact HB.out)) hb)
            clear HO324
            clear HO327
            clear HO330
            clear HO335
            clear HO339
            clear HO343
            clear HO349
            clear BK316
            clear BK317
            clear BK336
            clear BK340
            clear HB
            have HO324 := n0_
            have HO327 := n1_
            have HO330 := n2_
            have HO335 := n3_
            have HO339 := n4_
            have HO343 := n5_
            have HO349 := n6_
            have HO353 := n7_
            have BK316 := n8_
            have BK317 := n9_
            have BK336 := n10_
            have BK340 := n11_
            have HB := n12_
            clear n0_ n1_ n2_ n3_ n4_ n5_ n6_ n7_ n8_ n9_ n10_ n11_ n12_
            (try clear hb)
            (try clear hb2)
            (try clear hk)
            (try clear hi)
            (try clear ho0)
            obtain ⟨Ao74, co74, eo74⟩ := Kd.R_slice HO353.out
            (first | subst eo74 | (injection eo74 with f1_ f2_ f3_; have f4_ := f1_.symm; have f5_ := f3_.symm; clear f1_ f2_ f3_; subst f4_; subst f5_))
            refine hK.out _ _ ⟨(blk_cell BK340.out 0).trans rfl, (blk_cell BK317.out 0).trans rfl⟩ (fun hHeld => ?_)
            clear hK K
            refine norm_ (a' := ?_) ?_ ?_
            rotate_left
            · show Act.put _ (some 47) _ = _
              simp only [Act.put, List.setIfInBounds_toArray, List.set_cons_zero, List.set_cons_succ, i64_w, i32_w]
              rfl
            refine one_ (i := 3) (N := some 48) #[true, true, true, true, false] rfl rfl (by kernel_rfl) (by decide) (fun K hK => ?_)
            refine goes_ Try.func23 (by kernel_rfl) rfl #[.agg #[.slice Ao59 t337.length co59], .agg #[.slice Ao74 t351.length co74]] (by rfl) rfl rfl (by (try simp only [List.map_toArray, List.map_cons, List.map_nil]); first | done | rfl | (simp only [List.length_drop, List.length_take]; rfl)) ?_
            with_reducible refine (laws_eqTable.calls k _ _ t337 _ _ t351 true _ ?side1 ?side2 ?side3 ?side4 A31.out).mono ?_
            (case side1 => repeat (first | exact (Kd.R_reads' HO339.out).2.2 | (with_reducible refine Kd.C_alloc ?_ _) | (with_reducible refine Kd.C_drewN ?_ _) | (with_reducible refine Kd.C_drew ?_)))
            (case side2 => exact (Kd.R_reads' HO339.out).2.1)
            (case side3 => repeat (first | exact (Kd.R_reads' HO353.out).2.2 | (with_reducible refine Kd.C_alloc ?_ _) | (with_reducible refine Kd.C_drewN ?_ _) | (with_reducible refine Kd.C_drew ?_)))
            (case side4 => exact (Kd.R_reads' HO353.out).2.1)
            rintro e w75 ⟨rfl, hb⟩
            refine ⟨_, rfl, ?_⟩
            have n0_ := Aside0.mk (Kd.R_below (by (with_reducible repeat (first | apply Kd.R_alloc | apply Kd.R_drewN | apply Kd.R_drew)); exact HO324.out) hb)
            have n1_ := Aside0.mk (Kd.R_below (by (with_reducible repeat (first | apply Kd.R_alloc | apply Kd.R_drewN | apply Kd.R_drew)); exact HO327.out) hb)
            have n2_ := Aside0.mk (Kd.R_below (by (with_reducible repeat (first | apply Kd.R_alloc | apply Kd.R_drewN | apply Kd.R_drew)); exact HO330.out) hb)
            have n3_ := Aside0.mk (Kd.R_below (by (with_reducible repeat (first | apply Kd.R_alloc | apply Kd.R_drewN | apply Kd.R_drew)); exact HO335.out) hb)
            have n4_ := Aside0.mk (Kd.R_below (by (with_reducible repeat (first | apply Kd.R_alloc | apply Kd.R_drewN | apply Kd.R_drew)); exact HO339.out) hb)
            have n5_ := Aside0.mk (Kd.R_below (by (with_reducible repeat (first | apply Kd.R_alloc | apply Kd.R_drewN | apply Kd.R_drew)); exact HO343.out) hb)
            have n6_ := Aside0.mk (Kd.R_below (by (with_reducible repeat (first | apply Kd.R_alloc | apply Kd.R_drewN | apply Kd.R_drew)); exact HO349.out) hb)
            have n7_ := Aside0.mk (Kd.R_below (by (with_reducible repeat (first | apply Kd.R_alloc | apply Kd.R_drewN | apply Kd.R_drew)); exact HO353.out) hb)
            have n8_ := Aside0.mk (blk_below (g := gb316) (o := .cells #[.int .i64 a0_0, .int .i64 a0_1, .slice A0_2 l0_2.length c0_2] 26 (0, 0)) (by (with_reducible repeat (first | refine blk_drewN ?_ _ | refine blk_drew ?_ | refine blk_alloc ?_ _)); exact BK316.out) hb)
            have n9_ := Aside0.mk (blk_below (g := gb317) (o := .cells #[.slice A1_0 l1_0.length c1_0] 28 (0, 0)) (by (with_reducible repeat (first | refine blk_drewN ?_ _ | refine blk_drew ?_ | refine blk_alloc ?_ _)); exact BK317.out) hb)
            have n10_ := Aside0.mk (blk_below (g := gb336) (o := .cells #[.int .i64 t331, .int .i64 t332, .slice Ao55 t333.length co55] 34 (0, 0)) (by (with_reducible repeat (first | refine blk_drewN ?_ _ | refine blk_drew ?_ | refine blk_alloc ?_ _)); exact BK336.out) hb)
            have n11_ := Aside0.mk (blk_below (g := gb340) (o := .cells #[.slice Ao59 t337.length co59] 36 (0, 0)) (by (with_reducible repeat (first | refine blk_drewN ?_ _ | refine blk_drew ?_ | refine blk_alloc ?_ _)); exact BK340.out) hb)
            have n12_ := Aside0.mk (below_step (by repeat (first | (with_reducible first | exact HB.out | apply below_alloc | apply pw_below_drewN | apply below_drew1 | refine below_set ?_ GE316.out | refine below_set ?_ GE317.out | refine below_set ?_ GE336.out | refine below_set ?_ GE340.out) | exact HB.out)) hb)
            clear HO324
            clear HO327
            clear HO330
            clear HO335
            clear HO339
            clear HO343
            clear HO349
            clear HO353
            clear BK316
            clear BK317
            clear BK336
            clear BK340
            clear HB
            have HO324 := n0_
            have HO327 := n1_
            have HO330 := n2_
            have HO335 := n3_
            have HO339 := n4_
            have HO343 := n5_
            have HO349 := n6_
            have HO353 := n7_
            have BK316 := n8_
            have BK317 := n9_
            have BK336 := n10_
            have BK340 := n11_
            have HB := n12_
            clear n0_ n1_ n2_ n3_ n4_ n5_ n6_ n7_ n8_ n9_ n10_ n11_ n12_
            (try clear hb)
            (try clear hb2)
            (try clear hk)
            (try clear hi)
            refine hK.out _ _ ⟨(blk_cell BK340.out 0).trans rfl, (blk_cell BK317.out 0).trans rfl⟩ (fun hHeld => ?_)
            clear hK K
            refine norm_ (a' := ?_) ?_ ?_
            rotate_left
            · show Act.put _ (some 48) _ = _
              simp only [Act.put, List.setIfInBounds_toArray, List.set_cons_zero, List.set_cons_succ, i64_w, i32_w]
              rfl
            refine pure_ (i := 4) (N := some 49) (v := ?_) (a' := ?_) #[true, true, true, true, true] rfl rfl (by kernel_rfl) (fun _ _ _ h => h) (Or.inl ⟨by rfl, ?_⟩) ?_ ?_
            rotate_left
            · intro w'
              go_simp
              with_reducible rfl
            rotate_left
            · simp only [Act.put, List.setIfInBounds_toArray, List.set_cons_zero, List.set_cons_succ, i64_w, i32_w]
              rfl
            refine done_ (by kernel_rfl) ?_
            have hcz76_0 : w75.cell? ⟨gb336, 0, none⟩ = some (.int .i64 t331) := (blk_cell BK336.out 0).trans rfl
            have hcz76_1 : w75.cell? ⟨gb336, 1, none⟩ = some (.int .i64 t332) := (blk_cell BK336.out 1).trans rfl
            have hcz76_2 : w75.cell? ⟨gb336, 2, none⟩ = some (.slice Ao55 t333.length co55) := (blk_cell BK336.out 2).trans rfl
            have hfz76_0 := blk_frozen BK336.out 0
            have hfz76_1 := blk_frozen BK336.out 1
            have hfz76_2 := blk_frozen BK336.out 2
            go_upto_region 21 with (first | ((with_reducible refine gate_callee (f := 27) rfl ?_); refine goesL_ (some 52) rfl rfl Try.func27 (by kernel_rfl) rfl #[.agg #[.int .i64 t331, .int .i64 t332, .slice Ao55 t333.length co55], .int .i64 1] rfl (by (try simp only [List.map_toArray, List.map_cons, List.map_nil]); first | done | rfl | (simp only [List.length_drop, List.length_take]; rfl)) ?_; (with_reducible refine (laws_markMesh.calls k t331 t332 (fun k_ => some k_ = (.slice Ao55 t333.length co55 : Value).ownBlock) (.slice Ao55 t333.length co55) t333 1 t355 t356 w _ ?side1 ?side2 A33.out).mono ?_); (case side1 => repeat (first | (with_reducible first | exact HB.out | apply below_alloc | apply pw_below_drewN | apply below_drew1 | refine below_set ?_ GE316.out | refine below_set ?_ GE317.out | refine below_set ?_ GE336.out | refine below_set ?_ GE340.out) | exact HB.out)); (case side2 => exact Kd.R_tight rfl HO335.out); rintro e w77 ⟨rfl, hy0, hb, hkp⟩; refine ⟨_, rfl, ?_⟩; have n0_ := Aside0.mk (blk_kept (by (with_reducible repeat (first | refine blk_drewN ?_ _ | refine blk_drew ?_ | refine blk_alloc ?_ _)); exact BK316.out) hkp (fun hs_ => (fun e_ => (Kd.R_ne HO335.out BK316.out (by decide)) e_) hs_)); have n1_ := Aside0.mk (blk_kept (by (with_reducible repeat (first | refine blk_drewN ?_ _ | refine blk_drew ?_ | refine blk_alloc ?_ _)); exact BK317.out) hkp (fun hs_ => (fun e_ => (Kd.R_ne HO335.out BK317.out (by decide)) e_) hs_)); have n2_ := Aside0.mk (Kd.R_mono (ok' := fun k_ => some k_ ≠ (.slice Ao47 t325.length co47 : Value).ownBlock ∧ some k_ ≠ (.slice Ao67 t328.length co67 : Value).ownBlock ∧ some k_ ≠ (.slice Ao55 t333.length co55 : Value).ownBlock ∧ some k_ ≠ (.slice Ao59 t337.length co59 : Value).ownBlock ∧ some k_ ≠ (.slice Ao66 t341.length co66 : Value).ownBlock ∧ some k_ ≠ (.slice Ao70 t347.length co70 : Value).ownBlock ∧ some k_ ≠ (.slice Ao74 t351.length co74 : Value).ownBlock) (Kd.R_keptB (HO324.out) hkp (fun k_ hk_ hs_ => by first | exact (hk_.1.1.1.1.2) hs_ | (simp_all; done) | grind)) (fun k_ hk_ => by first | exact ⟨hk_.1.1.1.1.1.1.1.2, hk_.1.1.1.1.1.1.2, hk_.1.1.1.1.1.2, hk_.1.1.1.1.2, hk_.1.1.1.2, hk_.1.1.2, hk_.1.2⟩ | (simp_all; done) | grind)); have n3_ := Aside0.mk (Kd.R_mono (ok' := fun k_ => some k_ ≠ (.slice Ao46 t322.length co46 : Value).ownBlock ∧ some k_ ≠ (.slice Ao67 t328.length co67 : Value).ownBlock ∧ some k_ ≠ (.slice Ao55 t333.length co55 : Value).ownBlock ∧ some k_ ≠ (.slice Ao59 t337.length co59 : Value).ownBlock ∧ some k_ ≠ (.slice Ao66 t341.length co66 : Value).ownBlock ∧ some k_ ≠ (.slice Ao70 t347.length co70 : Value).ownBlock ∧ some k_ ≠ (.slice Ao74 t351.length co74 : Value).ownBlock) (Kd.R_keptB (HO327.out) hkp (fun k_ hk_ hs_ => by first | exact (hk_.1.1.1.1.2) hs_ | (simp_all; done) | grind)) (fun k_ hk_ => by first | exact ⟨hk_.1.1.1.1.1.1.1.2, hk_.1.1.1.1.1.1.2, hk_.1.1.1.1.1.2, hk_.1.1.1.1.2, hk_.1.1.1.2, hk_.1.1.2, hk_.1.2⟩ | (simp_all; done) | grind)); have n4_ := Aside0.mk (Kd.R_mono (ok' := fun k_ => some k_ ≠ (.slice Ao46 t322.length co46 : Value).ownBlock ∧ some k_ ≠ (.slice Ao47 t325.length co47 : Value).ownBlock ∧ some k_ ≠ (.slice Ao55 t333.length co55 : Value).ownBlock ∧ some k_ ≠ (.slice Ao59 t337.length co59 : Value).ownBlock ∧ some k_ ≠ (.slice Ao66 t341.length co66 : Value).ownBlock ∧ some k_ ≠ (.slice Ao70 t347.length co70 : Value).ownBlock ∧ some k_ ≠ (.slice Ao74 t351.length co74 : Value).ownBlock) (Kd.R_keptB (HO330.out) hkp (fun k_ hk_ hs_ => by first | exact (hk_.1.1.1.1.2) hs_ | (simp_all; done) | grind)) (fun k_ hk_ => by first | exact ⟨hk_.1.1.1.1.1.1.1.2, hk_.1.1.1.1.1.1.2, hk_.1.1.1.1.1.2, hk_.1.1.1.1.2, hk_.1.1.1.2, hk_.1.1.2, hk_.1.2⟩ | (simp_all; done) | grind)); have n5_ := Aside0.mk (Kd.R_reok rfl hy0 (fun k_ e_ => HO335.out.1 k_ e_)); have n6_ := Aside0.mk (blk_kept (by (with_reducible repeat (first | refine blk_drewN ?_ _ | refine blk_drew ?_ | refine blk_alloc ?_ _)); exact BK336.out) hkp (fun hs_ => (fun e_ => (Kd.R_ne HO335.out BK336.out (by decide)) e_) hs_)); have n7_ := Aside0.mk (Kd.R_mono (ok' := fun k_ => some k_ ≠ (.slice Ao46 t322.length co46 : Value).ownBlock ∧ some k_ ≠ (.slice Ao47 t325.length co47 : Value).ownBlock ∧ some k_ ≠ (.slice Ao67 t328.length co67 : Value).ownBlock ∧ some k_ ≠ (.slice Ao55 t333.length co55 : Value).ownBlock ∧ some k_ ≠ (.slice Ao66 t341.length co66 : Value).ownBlock ∧ some k_ ≠ (.slice Ao70 t347.length co70 : Value).ownBlock ∧ some k_ ≠ (.slice Ao74 t351.length co74 : Value).ownBlock) (Kd.R_keptB (HO339.out) hkp (fun k_ hk_ hs_ => by first | exact (hk_.1.1.1.2) hs_ | (simp_all; done) | grind)) (fun k_ hk_ => by first | exact ⟨hk_.1.1.1.1.1.1.1.2, hk_.1.1.1.1.1.1.2, hk_.1.1.1.1.1.2, hk_.1.1.1.1.2, hk_.1.1.1.2, hk_.1.1.2, hk_.1.2⟩ | (simp_all; done) | grind)); have n8_ := Aside0.mk (blk_kept (by (with_reducible repeat (first | refine blk_drewN ?_ _ | refine blk_drew ?_ | refine blk_alloc ?_ _)); exact BK340.out) hkp (fun hs_ => (fun e_ => (Kd.R_ne HO335.out BK340.out (by decide)) e_) hs_)); have n9_ := Aside0.mk (Kd.R_mono (ok' := fun k_ => some k_ ≠ (.slice Ao46 t322.length co46 : Value).ownBlock ∧ some k_ ≠ (.slice Ao47 t325.length co47 : Value).ownBlock ∧ some k_ ≠ (.slice Ao67 t328.length co67 : Value).ownBlock ∧ some k_ ≠ (.slice Ao55 t333.length co55 : Value).ownBlock ∧ some k_ ≠ (.slice Ao59 t337.length co59 : Value).ownBlock ∧ some k_ ≠ (.slice Ao70 t347.length co70 : Value).ownBlock ∧ some k_ ≠ (.slice Ao74 t351.length co74 : Value).ownBlock) (Kd.R_keptB (HO343.out) hkp (fun k_ hk_ hs_ => by first | exact (hk_.1.1.1.2) hs_ | (simp_all; done) | grind)) (fun k_ hk_ => by first | exact ⟨hk_.1.1.1.1.1.1.1.2, hk_.1.1.1.1.1.1.2, hk_.1.1.1.1.1.2, hk_.1.1.1.1.2, hk_.1.1.1.2, hk_.1.1.2, hk_.1.2⟩ | (simp_all; done) | grind)); have n10_ := Aside0.mk (Kd.R_mono (ok' := fun k_ => some k_ ≠ (.slice Ao46 t322.length co46 : Value).ownBlock ∧ some k_ ≠ (.slice Ao47 t325.length co47 : Value).ownBlock ∧ some k_ ≠ (.slice Ao67 t328.length co67 : Value).ownBlock ∧ some k_ ≠ (.slice Ao55 t333.length co55 : Value).ownBlock ∧ some k_ ≠ (.slice Ao59 t337.length co59 : Value).ownBlock ∧ some k_ ≠ (.slice Ao66 t341.length co66 : Value).ownBlock ∧ some k_ ≠ (.slice Ao74 t351.length co74 : Value).ownBlock) (Kd.R_keptB (HO349.out) hkp (fun k_ hk_ hs_ => by first | exact (hk_.1.1.1.2) hs_ | (simp_all; done) | grind)) (fun k_ hk_ => by first | exact ⟨hk_.1.1.1.1.1.1.1.2, hk_.1.1.1.1.1.1.2, hk_.1.1.1.1.1.2, hk_.1.1.1.1.2, hk_.1.1.1.2, hk_.1.1.2, hk_.1.2⟩ | (simp_all; done) | grind)); have n11_ := Aside0.mk (Kd.R_mono (ok' := fun k_ => some k_ ≠ (.slice Ao46 t322.length co46 : Value).ownBlock ∧ some k_ ≠ (.slice Ao47 t325.length co47 : Value).ownBlock ∧ some k_ ≠ (.slice Ao67 t328.length co67 : Value).ownBlock ∧ some k_ ≠ (.slice Ao55 t333.length co55 : Value).ownBlock ∧ some k_ ≠ (.slice Ao59 t337.length co59 : Value).ownBlock ∧ some k_ ≠ (.slice Ao66 t341.length co66 : Value).ownBlock ∧ some k_ ≠ (.slice Ao70 t347.length co70 : Value).ownBlock) (Kd.R_keptB (HO353.out) hkp (fun k_ hk_ hs_ => by first | exact (hk_.1.1.1.2) hs_ | (simp_all; done) | grind)) (fun k_ hk_ => by first | exact ⟨hk_.1.1.1.1.1.1.1.2, hk_.1.1.1.1.1.1.2, hk_.1.1.1.1.1.2, hk_.1.1.1.1.2, hk_.1.1.1.2, hk_.1.1.2, hk_.1.2⟩ | (simp_all; done) | grind)); have n12_ := Aside0.mk (hb); clear BK316; clear BK317; clear HO324; clear HO327; clear HO330; clear HO335; clear BK336; clear HO339; clear BK340; clear HO343; clear HO349; clear HO353; clear HB; have BK316 := n0_; have BK317 := n1_; have HO324 := n2_; have HO327 := n3_; have HO330 := n4_; have HO335 := n5_; have BK336 := n6_; have HO339 := n7_; have BK340 := n8_; have HO343 := n9_; have HO349 := n10_; have HO353 := n11_; have HB := n12_; clear n0_ n1_ n2_ n3_ n4_ n5_ n6_ n7_ n8_ n9_ n10_ n11_ n12_; (try clear hb); (try clear hkp); (try clear hy0); have hcz78_0 : w77.cell? ⟨gb340, 0, none⟩ = some (.slice Ao59 t337.length co59) := (blk_cell BK340.out 0).trans rfl; have hfz78_0 := blk_frozen BK340.out 0) | ((with_reducible refine gate_callee (f := 28) rfl ?_); refine goesL_ (some 55) rfl rfl Try.func28 (by kernel_rfl) rfl #[.agg #[.slice Ao59 t337.length co59], .int .i64 t355] rfl (by (try simp only [List.map_toArray, List.map_cons, List.map_nil]); first | done | rfl | (simp only [List.length_drop, List.length_take]; rfl)) ?_; (with_reducible refine (laws_markTable.calls k (fun k_ => some k_ = (.slice Ao59 t337.length co59 : Value).ownBlock) (.slice Ao59 t337.length co59) t337 t355 t357 t358 w _ ?side1 ?side2 A34.out).mono ?_); (case side1 => repeat (first | (with_reducible first | exact HB.out | apply below_alloc | apply pw_below_drewN | apply below_drew1 | refine below_set ?_ GE316.out | refine below_set ?_ GE317.out | refine below_set ?_ GE336.out | refine below_set ?_ GE340.out) | exact HB.out)); (case side2 => exact Kd.R_tight rfl HO339.out); rintro e w79 ⟨rfl, hy0, hb, hkp⟩; refine ⟨_, rfl, ?_⟩; have n0_ := Aside0.mk (blk_kept (by (with_reducible repeat (first | refine blk_drewN ?_ _ | refine blk_drew ?_ | refine blk_alloc ?_ _)); exact BK316.out) hkp (fun hs_ => (fun e_ => (Kd.R_ne HO339.out BK316.out (by decide)) e_) hs_)); have n1_ := Aside0.mk (blk_kept (by (with_reducible repeat (first | refine blk_drewN ?_ _ | refine blk_drew ?_ | refine blk_alloc ?_ _)); exact BK317.out) hkp (fun hs_ => (fun e_ => (Kd.R_ne HO339.out BK317.out (by decide)) e_) hs_)); have n2_ := Aside0.mk (Kd.R_mono (ok' := fun k_ => some k_ ≠ (.slice Ao47 t325.length co47 : Value).ownBlock ∧ some k_ ≠ (.slice Ao67 t328.length co67 : Value).ownBlock ∧ some k_ ≠ (.slice Ao55 t333.length co55 : Value).ownBlock ∧ some k_ ≠ (.slice Ao59 t337.length co59 : Value).ownBlock ∧ some k_ ≠ (.slice Ao66 t341.length co66 : Value).ownBlock ∧ some k_ ≠ (.slice Ao70 t347.length co70 : Value).ownBlock ∧ some k_ ≠ (.slice Ao74 t351.length co74 : Value).ownBlock) (Kd.R_keptB (HO324.out) hkp (fun k_ hk_ hs_ => by first | exact (hk_.2.2.2.1) hs_ | (simp_all; done) | grind)) (fun k_ hk_ => by first | exact ⟨hk_.1.1, hk_.1.2.1, hk_.1.2.2.1, hk_.1.2.2.2.1, hk_.1.2.2.2.2.1, hk_.1.2.2.2.2.2.1, hk_.1.2.2.2.2.2.2⟩ | (simp_all; done) | grind)); have n3_ := Aside0.mk (Kd.R_mono (ok' := fun k_ => some k_ ≠ (.slice Ao46 t322.length co46 : Value).ownBlock ∧ some k_ ≠ (.slice Ao67 t328.length co67 : Value).ownBlock ∧ some k_ ≠ (.slice Ao55 t333.length co55 : Value).ownBlock ∧ some k_ ≠ (.slice Ao59 t337.length co59 : Value).ownBlock ∧ some k_ ≠ (.slice Ao66 t341.length co66 : Value).ownBlock ∧ some k_ ≠ (.slice Ao70 t347.length co70 : Value).ownBlock ∧ some k_ ≠ (.slice Ao74 t351.length co74 : Value).ownBlock) (Kd.R_keptB (HO327.out) hkp (fun k_ hk_ hs_ => by first | exact (hk_.2.2.2.1) hs_ | (simp_all; done) | grind)) (fun k_ hk_ => by first | exact ⟨hk_.1.1, hk_.1.2.1, hk_.1.2.2.1, hk_.1.2.2.2.1, hk_.1.2.2.2.2.1, hk_.1.2.2.2.2.2.1, hk_.1.2.2.2.2.2.2⟩ | (simp_all; done) | grind)); have n4_ := Aside0.mk (Kd.R_mono (ok' := fun k_ => some k_ ≠ (.slice Ao46 t322.length co46 : Value).ownBlock ∧ some k_ ≠ (.slice Ao47 t325.length co47 : Value).ownBlock ∧ some k_ ≠ (.slice Ao55 t333.length co55 : Value).ownBlock ∧ some k_ ≠ (.slice Ao59 t337.length co59 : Value).ownBlock ∧ some k_ ≠ (.slice Ao66 t341.length co66 : Value).ownBlock ∧ some k_ ≠ (.slice Ao70 t347.length co70 : Value).ownBlock ∧ some k_ ≠ (.slice Ao74 t351.length co74 : Value).ownBlock) (Kd.R_keptB (HO330.out) hkp (fun k_ hk_ hs_ => by first | exact (hk_.2.2.2.1) hs_ | (simp_all; done) | grind)) (fun k_ hk_ => by first | exact ⟨hk_.1.1, hk_.1.2.1, hk_.1.2.2.1, hk_.1.2.2.2.1, hk_.1.2.2.2.2.1, hk_.1.2.2.2.2.2.1, hk_.1.2.2.2.2.2.2⟩ | (simp_all; done) | grind)); have n5_ := Aside0.mk (Kd.R_mono (ok' := fun k_ => some k_ ≠ (.slice Ao46 t322.length co46 : Value).ownBlock ∧ some k_ ≠ (.slice Ao47 t325.length co47 : Value).ownBlock ∧ some k_ ≠ (.slice Ao67 t328.length co67 : Value).ownBlock ∧ some k_ ≠ (.slice Ao59 t337.length co59 : Value).ownBlock ∧ some k_ ≠ (.slice Ao66 t341.length co66 : Value).ownBlock ∧ some k_ ≠ (.slice Ao70 t347.length co70 : Value).ownBlock ∧ some k_ ≠ (.slice Ao74 t351.length co74 : Value).ownBlock) (Kd.R_keptB (HO335.out) hkp (fun k_ hk_ hs_ => by first | exact (hk_.1.1.1.2) hs_ | (simp_all; done) | grind)) (fun k_ hk_ => by first | exact ⟨hk_.1.1.1.1.1.1.1.2, hk_.1.1.1.1.1.1.2, hk_.1.1.1.1.1.2, hk_.1.1.1.1.2, hk_.1.1.1.2, hk_.1.1.2, hk_.1.2⟩ | (simp_all; done) | grind)); have n6_ := Aside0.mk (blk_kept (by (with_reducible repeat (first | refine blk_drewN ?_ _ | refine blk_drew ?_ | refine blk_alloc ?_ _)); exact BK336.out) hkp (fun hs_ => (fun e_ => (Kd.R_ne HO339.out BK336.out (by decide)) e_) hs_)); have n7_ := Aside0.mk (Kd.R_reok rfl hy0 (fun k_ e_ => HO339.out.1 k_ e_)); have n8_ := Aside0.mk (blk_kept (by (with_reducible repeat (first | refine blk_drewN ?_ _ | refine blk_drew ?_ | refine blk_alloc ?_ _)); exact BK340.out) hkp (fun hs_ => (fun e_ => (Kd.R_ne HO339.out BK340.out (by decide)) e_) hs_)); have n9_ := Aside0.mk (Kd.R_mono (ok' := fun k_ => some k_ ≠ (.slice Ao46 t322.length co46 : Value).ownBlock ∧ some k_ ≠ (.slice Ao47 t325.length co47 : Value).ownBlock ∧ some k_ ≠ (.slice Ao67 t328.length co67 : Value).ownBlock ∧ some k_ ≠ (.slice Ao55 t333.length co55 : Value).ownBlock ∧ some k_ ≠ (.slice Ao59 t337.length co59 : Value).ownBlock ∧ some k_ ≠ (.slice Ao70 t347.length co70 : Value).ownBlock ∧ some k_ ≠ (.slice Ao74 t351.length co74 : Value).ownBlock) (Kd.R_keptB (HO343.out) hkp (fun k_ hk_ hs_ => by first | exact (hk_.2.2.2.2.1) hs_ | (simp_all; done) | grind)) (fun k_ hk_ => by first | exact ⟨hk_.1.1, hk_.1.2.1, hk_.1.2.2.1, hk_.1.2.2.2.1, hk_.1.2.2.2.2.1, hk_.1.2.2.2.2.2.1, hk_.1.2.2.2.2.2.2⟩ | (simp_all; done) | grind)); have n10_ := Aside0.mk (Kd.R_mono (ok' := fun k_ => some k_ ≠ (.slice Ao46 t322.length co46 : Value).ownBlock ∧ some k_ ≠ (.slice Ao47 t325.length co47 : Value).ownBlock ∧ some k_ ≠ (.slice Ao67 t328.length co67 : Value).ownBlock ∧ some k_ ≠ (.slice Ao55 t333.length co55 : Value).ownBlock ∧ some k_ ≠ (.slice Ao59 t337.length co59 : Value).ownBlock ∧ some k_ ≠ (.slice Ao66 t341.length co66 : Value).ownBlock ∧ some k_ ≠ (.slice Ao74 t351.length co74 : Value).ownBlock) (Kd.R_keptB (HO349.out) hkp (fun k_ hk_ hs_ => by first | exact (hk_.2.2.2.2.1) hs_ | (simp_all; done) | grind)) (fun k_ hk_ => by first | exact ⟨hk_.1.1, hk_.1.2.1, hk_.1.2.2.1, hk_.1.2.2.2.1, hk_.1.2.2.2.2.1, hk_.1.2.2.2.2.2.1, hk_.1.2.2.2.2.2.2⟩ | (simp_all; done) | grind)); have n11_ := Aside0.mk (Kd.R_mono (ok' := fun k_ => some k_ ≠ (.slice Ao46 t322.length co46 : Value).ownBlock ∧ some k_ ≠ (.slice Ao47 t325.length co47 : Value).ownBlock ∧ some k_ ≠ (.slice Ao67 t328.length co67 : Value).ownBlock ∧ some k_ ≠ (.slice Ao55 t333.length co55 : Value).ownBlock ∧ some k_ ≠ (.slice Ao59 t337.length co59 : Value).ownBlock ∧ some k_ ≠ (.slice Ao66 t341.length co66 : Value).ownBlock ∧ some k_ ≠ (.slice Ao70 t347.length co70 : Value).ownBlock) (Kd.R_keptB (HO353.out) hkp (fun k_ hk_ hs_ => by first | exact (hk_.2.2.2.2.1) hs_ | (simp_all; done) | grind)) (fun k_ hk_ => by first | exact ⟨hk_.1.1, hk_.1.2.1, hk_.1.2.2.1, hk_.1.2.2.2.1, hk_.1.2.2.2.2.1, hk_.1.2.2.2.2.2.1, hk_.1.2.2.2.2.2.2⟩ | (simp_all; done) | grind)); have n12_ := Aside0.mk (hb); clear BK316; clear BK317; clear HO324; clear HO327; clear HO330; clear HO335; clear BK336; clear HO339; clear BK340; clear HO343; clear HO349; clear HO353; clear HB; have BK316 := n0_; have BK317 := n1_; have HO324 := n2_; have HO327 := n3_; have HO330 := n4_; have HO335 := n5_; have BK336 := n6_; have HO339 := n7_; have BK340 := n8_; have HO343 := n9_; have HO349 := n10_; have HO353 := n11_; have HB := n12_; clear n0_ n1_ n2_ n3_ n4_ n5_ n6_ n7_ n8_ n9_ n10_ n11_ n12_; (try clear hb); (try clear hkp); (try clear hy0)))
            (try simp only [Act.put, List.setIfInBounds_toArray, List.set_cons_zero, List.set_cons_succ])
            go_cut [63] (fun v63 wc => ∃ (kq : Nat) (x63_34 : Bool), v63 = .bool x63_34 ∧ Aside0 (laws_FnExactTurnsOf.j0 kq t328 t341 x63_34 a0_0 a0_1 l0_2 l1_0 = some r) ∧ Aside0 (kq ≤ k) ∧ Aside0 (Kd.R (Kd.int .i64) 3 wc w.heap.size (fun k_ => some k_ ≠ ((.slice Ao66 t341.length co66) : Value).ownBlock ∧ some k_ ≠ ((.slice Ao55 t333.length co55) : Value).ownBlock ∧ some k_ ≠ ((.slice Ao59 t337.length co59) : Value).ownBlock) (.slice Ao67 t328.length co67) t328) ∧ Aside0 (Kd.R (Kd.int .i64) 3 wc w.heap.size (fun k_ => some k_ ≠ ((.slice Ao67 t328.length co67) : Value).ownBlock ∧ some k_ ≠ ((.slice Ao55 t333.length co55) : Value).ownBlock ∧ some k_ ≠ ((.slice Ao59 t337.length co59) : Value).ownBlock) (.slice Ao66 t341.length co66) t341) ∧ Aside0 (Kd.R (Kd.int .i64) 3 wc w.heap.size (fun k_ => some k_ ≠ ((.slice Ao67 t328.length co67) : Value).ownBlock ∧ some k_ ≠ ((.slice Ao66 t341.length co66) : Value).ownBlock ∧ some k_ ≠ ((.slice Ao59 t337.length co59) : Value).ownBlock) (.slice Ao55 t333.length co55) t356) ∧ Aside0 (Kd.R (Kd.int .i64) 3 wc w.heap.size (fun k_ => some k_ ≠ ((.slice Ao67 t328.length co67) : Value).ownBlock ∧ some k_ ≠ ((.slice Ao66 t341.length co66) : Value).ownBlock ∧ some k_ ≠ ((.slice Ao55 t333.length co55) : Value).ownBlock) (.slice Ao59 t337.length co59) t358) ∧ Aside0 (wc.heap[gb316]? = some (.cells #[.int .i64 a0_0, .int .i64 a0_1, (.slice A0_2 l0_2.length c0_2)] 26 (0, 0))) ∧ Aside0 (wc.heap[gb317]? = some (.cells #[(.slice A1_0 l1_0.length c1_0)] 28 (0, 0))) ∧ Aside0 (wc.heap[gb336]? = some (.cells #[.int .i64 t331, .int .i64 t332, (.slice Ao55 t333.length co55)] 34 (0, 0))) ∧ Aside0 (wc.heap[gb340]? = some (.cells #[(.slice Ao59 t337.length co59)] 36 (0, 0))) ∧ Aside0 (Below w.heap.size w wc))
            case first =>
              have H := HC35.out
              clear HC35
              by_cases c80 : t357 < 0
              · rw [if_pos c80] at H
                have c80b0 : decide (t357 < 0) = true := decide_eq_true c80
                clear c80
                (first | rw [c80b0] | (simp only [i64_w, i32_w]; rw [c80b0]) | skip)
                have H' := Aside0.mk H
                clear H
                go_wp2
                go_meet
                case rel => exact ⟨_, (true), (by first | rfl | (simp; done) | (simp [*]; done)), H', ⟨by first | omega | exact Nat.le_refl _⟩, ⟨by (with_reducible repeat (first | apply Kd.R_alloc | apply Kd.R_drewN | apply Kd.R_drew)); exact Kd.R_mono HO330.out (fun _ hk => ⟨hk.2.2.2.2.1, ⟨hk.2.2.1, hk.2.2.2.1⟩⟩)⟩, ⟨by (with_reducible repeat (first | apply Kd.R_alloc | apply Kd.R_drewN | apply Kd.R_drew)); exact Kd.R_mono HO343.out (fun _ hk => ⟨hk.2.2.1, ⟨hk.2.2.2.1, hk.2.2.2.2.1⟩⟩)⟩, ⟨by (with_reducible repeat (first | apply Kd.R_alloc | apply Kd.R_drewN | apply Kd.R_drew)); exact Kd.R_mono HO335.out (fun _ hk => ⟨hk.2.2.1, ⟨hk.2.2.2.2.1, hk.2.2.2.1⟩⟩)⟩, ⟨by (with_reducible repeat (first | apply Kd.R_alloc | apply Kd.R_drewN | apply Kd.R_drew)); exact Kd.R_mono HO339.out (fun _ hk => ⟨hk.2.2.1, ⟨hk.2.2.2.2.1, hk.2.2.2.1⟩⟩)⟩, ⟨by (with_reducible repeat (first | refine blk_drewN ?_ _ | refine blk_drew ?_ | refine blk_alloc ?_ _)); exact BK316.out⟩, ⟨by (with_reducible repeat (first | refine blk_drewN ?_ _ | refine blk_drew ?_ | refine blk_alloc ?_ _)); exact BK317.out⟩, ⟨by (with_reducible repeat (first | refine blk_drewN ?_ _ | refine blk_drew ?_ | refine blk_alloc ?_ _)); exact BK336.out⟩, ⟨by (with_reducible repeat (first | refine blk_drewN ?_ _ | refine blk_drew ?_ | refine blk_alloc ?_ _)); exact BK340.out⟩, ⟨by repeat (first | (with_reducible first | exact HB.out | apply below_alloc | apply pw_below_drewN | apply below_drew1 | refine below_set ?_ GE316.out | refine below_set ?_ GE317.out | refine below_set ?_ GE336.out | refine below_set ?_ GE340.out) | exact HB.out)⟩⟩
              · rw [if_neg c80] at H
                have c80b0 : decide (t357 < 0) = false := decide_eq_false c80
                clear c80
                (first | rw [c80b0] | (simp only [i64_w, i32_w]; rw [c80b0]) | skip)
                replace H := Option.bind_eq_some_iff.mp H
                obtain ⟨t359, A810, H⟩ := H
                replace H : (laws_FnExactTurnsOf.j0 k t328 t341 (!t359) a0_0 a0_1 l0_2 l1_0) = some r := H
                have A81 := Aside0.mk A810
                clear A810
                have H' := Aside0.mk H
                clear H
                go_wp2_with (first | (go_at_call 24; (with_reducible refine (laws_eqIntS.calls k _ _ t341 _ _ t328 t359 _ ?side1 ?side2 ?side3 ?side4 A81.out).mono ?_); (case side1 => repeat (first | exact (Kd.R_reads' HO343.out).2.2 | (with_reducible refine Kd.C_alloc ?_ _) | (with_reducible refine Kd.C_drewN ?_ _) | (with_reducible refine Kd.C_drew ?_))); (case side2 => exact (Kd.R_reads' HO343.out).2.1); (case side3 => repeat (first | exact (Kd.R_reads' HO330.out).2.2 | (with_reducible refine Kd.C_alloc ?_ _) | (with_reducible refine Kd.C_drewN ?_ _) | (with_reducible refine Kd.C_drew ?_))); (case side4 => exact (Kd.R_reads' HO330.out).2.1); rintro e w' ⟨rfl, ⟨nd, rfl⟩⟩))
                go_meet
                case rel => exact ⟨_, (!t359), (by first | rfl | (simp; done) | (simp [*]; done)), H', ⟨by first | omega | exact Nat.le_refl _⟩, ⟨by (with_reducible repeat (first | apply Kd.R_alloc | apply Kd.R_drewN | apply Kd.R_drew)); exact Kd.R_mono HO330.out (fun _ hk => ⟨hk.2.2.2.2.1, ⟨hk.2.2.1, hk.2.2.2.1⟩⟩)⟩, ⟨by (with_reducible repeat (first | apply Kd.R_alloc | apply Kd.R_drewN | apply Kd.R_drew)); exact Kd.R_mono HO343.out (fun _ hk => ⟨hk.2.2.1, ⟨hk.2.2.2.1, hk.2.2.2.2.1⟩⟩)⟩, ⟨by (with_reducible repeat (first | apply Kd.R_alloc | apply Kd.R_drewN | apply Kd.R_drew)); exact Kd.R_mono HO335.out (fun _ hk => ⟨hk.2.2.1, ⟨hk.2.2.2.2.1, hk.2.2.2.1⟩⟩)⟩, ⟨by (with_reducible repeat (first | apply Kd.R_alloc | apply Kd.R_drewN | apply Kd.R_drew)); exact Kd.R_mono HO339.out (fun _ hk => ⟨hk.2.2.1, ⟨hk.2.2.2.2.1, hk.2.2.2.1⟩⟩)⟩, ⟨by (with_reducible repeat (first | refine blk_drewN ?_ _ | refine blk_drew ?_ | refine blk_alloc ?_ _)); exact BK316.out⟩, ⟨by (with_reducible repeat (first | refine blk_drewN ?_ _ | refine blk_drew ?_ | refine blk_alloc ?_ _)); exact BK317.out⟩, ⟨by (with_reducible repeat (first | refine blk_drewN ?_ _ | refine blk_drew ?_ | refine blk_alloc ?_ _)); exact BK336.out⟩, ⟨by (with_reducible repeat (first | refine blk_drewN ?_ _ | refine blk_drew ?_ | refine blk_alloc ?_ _)); exact BK340.out⟩, ⟨by repeat (first | (with_reducible first | exact HB.out | apply below_alloc | apply pw_below_drewN | apply below_drew1 | refine below_set ?_ GE316.out | refine below_set ?_ GE317.out | refine below_set ?_ GE336.out | refine below_set ?_ GE340.out) | exact HB.out)⟩⟩
            case rest =>
              clear HC35
              try clear c1
              try clear c2
              try clear p2
              try clear c3
              try clear c4
              try clear c5
              try clear c6
              try clear c8
              try clear c15
              try clear c16
              try clear c18
              try clear c19
              try clear c22
              try clear c23
              try clear c24
              try clear c25
              try clear c26
              try clear c27
              try clear c28
              try clear c29
              try clear c32
              try clear c38
              try clear c52
              try clear c53
              try clear c60
              try clear c61
              try clear c62
              try clear c80
              try clear c80b0
              try clear hcz39_0
              try clear hcz39_1
              try clear hcz39_2
              try clear hcz41_0
              try clear hcz49_0
              try clear hcz49_1
              try clear hcz49_2
              try clear hcz54_0
              try clear hcz54_1
              try clear hcz54_2
              try clear hcz56_0
              try clear hcz63_0
              try clear hcz64_0
              try clear hcz64_1
              try clear hcz64_2
              try clear hcz76_0
              try clear hcz76_1
              try clear hcz76_2
              try clear hcz78_0
              try clear hfz39_0
              try clear hfz39_1
              try clear hfz39_2
              try clear hfz41_0
              try clear hfz49_0
              try clear hfz49_1
              try clear hfz49_2
              try clear hfz54_0
              try clear hfz54_1
              try clear hfz54_2
              try clear hfz56_0
              try clear hfz63_0
              try clear hfz64_0
              try clear hfz64_1
              try clear hfz64_2
              try clear hfz76_0
              try clear hfz76_1
              try clear hfz76_2
              try clear hfz78_0
              obtain ⟨kq, x63_34, rfl, HA, HJ34, HO_6, HO_9, HO_337002, HO_341000, BK316, BK317, BK336, BK340, HB⟩ := hcut
              have hl337002_34 := (Kd.R_reads' HO_337002.out).1
              rw [hl337002_34] at HO_337002
              (try simp only [hl337002_34])
              (try simp only [hl337002_34] at BK316)
              (try simp only [hl337002_34] at BK317)
              (try simp only [hl337002_34] at BK336)
              (try simp only [hl337002_34] at BK340)
              (try simp only [hl337002_34] at HO_6)
              (try simp only [hl337002_34] at HO_9)
              (try simp only [hl337002_34] at HO_341000)
              have hl341000_34 := (Kd.R_reads' HO_341000.out).1
              rw [hl341000_34] at HO_341000
              (try simp only [hl341000_34])
              (try simp only [hl341000_34] at BK316)
              (try simp only [hl341000_34] at BK317)
              (try simp only [hl341000_34] at BK336)
              (try simp only [hl341000_34] at BK340)
              (try simp only [hl341000_34] at HO_6)
              (try simp only [hl341000_34] at HO_9)
              (try simp only [hl341000_34] at HO_337002)
              cases kq with
              | zero => exact absurd HA.out (by simp [laws_FnExactTurnsOf.j0])
              | succ kj34 =>
                have H := HA.out
                clear HA
                simp only [laws_FnExactTurnsOf.j0] at H
                by_cases c82 : x63_34 = true
                · subst c82
                  have H1 : (some false) = some r := by rw [if_pos rfl] at H; exact H
                  clear H
                  have H := H1
                  clear H1
                  obtain rfl := Option.some.inj H
                  exact absurd HRT.out (by simp)
                · replace c82 := Bool.eq_false_iff.mpr c82
                  subst c82
                  have H1 : ((laws_markIntS.f kj34 t341 1).bind fun bt360 => ((laws_heldIntS.f kj34 bt360.2 1).bind fun t362 => (if t362 < 0 then (some false) else (if t362 = bt360.1 then ((laws_toMesh.f kj34 a0_0 a0_1 l0_2).bind fun bt363 => ((laws_toTable.f kj34 l1_0).bind fun t368 => ((impl_TurnsOf.f kj34 bt363.1 bt363.2.1 bt363.2.2 t368).bind fun t371 => ((laws_eqIntS.f kj34 t371 t328).bind fun t374 => (if t374 = true then ((laws_heldIntS.f kj34 bt360.2 1).bind fun t375 => (if t375 < 0 then (some false) else (if t375 = bt360.1 then (some true) else (some false)))) else (some false)))))) else (some false))))) = some r := by rw [if_neg (show ¬ (false = true) by decide)] at H; exact H
                  clear H
                  have H := H1
                  clear H1
                  replace H := Option.bind_eq_some_iff.mp H
                  obtain ⟨⟨t360, t361⟩, A830, H⟩ := H
                  replace H : ((laws_heldIntS.f kj34 t361 1).bind fun t362 => (if t362 < 0 then (some false) else (if t362 = t360 then ((laws_toMesh.f kj34 a0_0 a0_1 l0_2).bind fun bt363 => ((laws_toTable.f kj34 l1_0).bind fun t368 => ((impl_TurnsOf.f kj34 bt363.1 bt363.2.1 bt363.2.2 t368).bind fun t371 => ((laws_eqIntS.f kj34 t371 t328).bind fun t374 => (if t374 = true then ((laws_heldIntS.f kj34 t361 1).bind fun t375 => (if t375 < 0 then (some false) else (if t375 = t360 then (some true) else (some false)))) else (some false)))))) else (some false)))) = some r := H
                  have A83 := Aside0.mk A830
                  clear A830
                  replace H := Option.bind_eq_some_iff.mp H
                  obtain ⟨t362, A840, H⟩ := H
                  replace H : (if t362 < 0 then (some false) else (if t362 = t360 then ((laws_toMesh.f kj34 a0_0 a0_1 l0_2).bind fun bt363 => ((laws_toTable.f kj34 l1_0).bind fun t368 => ((impl_TurnsOf.f kj34 bt363.1 bt363.2.1 bt363.2.2 t368).bind fun t371 => ((laws_eqIntS.f kj34 t371 t328).bind fun t374 => (if t374 = true then ((laws_heldIntS.f kj34 t361 1).bind fun t375 => (if t375 < 0 then (some false) else (if t375 = t360 then (some true) else (some false)))) else (some false)))))) else (some false))) = some r := H
                  have A84 := Aside0.mk A840
                  clear A840
                  by_cases c85 : t362 < 0
                  · rw [if_pos c85] at H
                    have c85b0 : decide (t362 < 0) = true := decide_eq_true c85
                    clear c85
                    obtain rfl := Option.some.inj H
                    exact absurd HRT.out (by simp)
                  · rw [if_neg c85] at H
                    have c85b0 : decide (t362 < 0) = false := decide_eq_false c85
                    clear c85
                    by_cases c86 : t362 = t360
                    · rw [if_pos c86] at H
                      have c86b0 : (t362 == t360) = true := beq_iff_eq.mpr c86
                      have c86b1 : (t362 != t360) = false := bne_eq_false_iff_eq.mpr c86
                      clear c86
                      replace H := Option.bind_eq_some_iff.mp H
                      obtain ⟨⟨t363, t364, t365⟩, A870, H⟩ := H
                      replace H : ((laws_toTable.f kj34 l1_0).bind fun t368 => ((impl_TurnsOf.f kj34 t363 t364 t365 t368).bind fun t371 => ((laws_eqIntS.f kj34 t371 t328).bind fun t374 => (if t374 = true then ((laws_heldIntS.f kj34 t361 1).bind fun t375 => (if t375 < 0 then (some false) else (if t375 = t360 then (some true) else (some false)))) else (some false))))) = some r := H
                      have A87 := Aside0.mk A870
                      clear A870
                      replace H := Option.bind_eq_some_iff.mp H
                      obtain ⟨t368, A880, H⟩ := H
                      replace H : ((impl_TurnsOf.f kj34 t363 t364 t365 t368).bind fun t371 => ((laws_eqIntS.f kj34 t371 t328).bind fun t374 => (if t374 = true then ((laws_heldIntS.f kj34 t361 1).bind fun t375 => (if t375 < 0 then (some false) else (if t375 = t360 then (some true) else (some false)))) else (some false)))) = some r := H
                      have A88 := Aside0.mk A880
                      clear A880
                      replace H := Option.bind_eq_some_iff.mp H
                      obtain ⟨t371, A890, H⟩ := H
                      replace H : ((laws_eqIntS.f kj34 t371 t328).bind fun t374 => (if t374 = true then ((laws_heldIntS.f kj34 t361 1).bind fun t375 => (if t375 < 0 then (some false) else (if t375 = t360 then (some true) else (some false)))) else (some false))) = some r := H
                      have A89 := Aside0.mk A890
                      clear A890
                      replace H := Option.bind_eq_some_iff.mp H
                      obtain ⟨t374, A900, H⟩ := H
                      replace H : (if t374 = true then ((laws_heldIntS.f kj34 t361 1).bind fun t375 => (if t375 < 0 then (some false) else (if t375 = t360 then (some true) else (some false)))) else (some false)) = some r := H
                      have A90 := Aside0.mk A900
                      clear A900
                      by_cases c91 : t374 = true
                      · subst c91
                        have H1 : ((laws_heldIntS.f kj34 t361 1).bind fun t375 => (if t375 < 0 then (some false) else (if t375 = t360 then (some true) else (some false)))) = some r := by rw [if_pos rfl] at H; exact H
                        clear H
                        have H := H1
                        clear H1
                        replace H := Option.bind_eq_some_iff.mp H
                        obtain ⟨t375, A920, H⟩ := H
                        replace H : (if t375 < 0 then (some false) else (if t375 = t360 then (some true) else (some false))) = some r := H
                        have A92 := Aside0.mk A920
                        clear A920
                        by_cases c93 : t375 < 0
                        · rw [if_pos c93] at H
                          have c93b0 : decide (t375 < 0) = true := decide_eq_true c93
                          clear c93
                          obtain rfl := Option.some.inj H
                          exact absurd HRT.out (by simp)
                        · rw [if_neg c93] at H
                          have c93b0 : decide (t375 < 0) = false := decide_eq_false c93
                          clear c93
                          by_cases c94 : t375 = t360
                          · rw [if_pos c94] at H
                            have c94b0 : (t375 == t360) = true := beq_iff_eq.mpr c94
                            have c94b1 : (t375 != t360) = false := bne_eq_false_iff_eq.mpr c94
                            clear c94
                            obtain rfl := Option.some.inj H
                            try go_wp2_with (first | ((with_reducible refine gate_callee (f := 29) rfl ?_); refine goesL_ (some 66) rfl rfl Try.func29 (by kernel_rfl) rfl #[.slice Ao66 t341.length co66, .int .i64 1] rfl (by (try simp only [List.map_toArray, List.map_cons, List.map_nil]); first | done | rfl | (simp only [List.length_drop, List.length_take]; rfl)) ?_; (with_reducible refine (laws_markIntS.calls kj34 (fun k_ => some k_ = (.slice Ao66 t341.length co66 : Value).ownBlock) (.slice Ao66 t341.length co66) t341 1 t360 t361 w _ ?side1 ?side2 A83.out).mono ?_); (case side1 => repeat (first | (with_reducible first | exact HB.out | apply below_alloc | apply pw_below_drewN | apply below_drew1 | refine below_set ?_ GE316.out | refine below_set ?_ GE317.out | refine below_set ?_ GE336.out | refine below_set ?_ GE340.out) | exact HB.out)); (case side2 => exact Kd.R_tight rfl HO_9.out); rintro e w95 ⟨rfl, hy0, hb, hkp⟩; refine ⟨_, rfl, ?_⟩; have n0_ := Aside0.mk (Kd.R_mono (ok' := fun k_ => some k_ ≠ (.slice Ao66 t341.length co66 : Value).ownBlock ∧ some k_ ≠ (.slice Ao55 t356.length co55 : Value).ownBlock ∧ some k_ ≠ (.slice Ao59 t358.length co59 : Value).ownBlock) (Kd.R_keptB (HO_6.out) hkp (fun k_ hk_ hs_ => by first | exact (hk_.1) hs_ | (simp_all; done) | grind)) (fun k_ hk_ => by first | exact ⟨hk_.1.1, hk_.1.2.1, hk_.1.2.2⟩ | (simp_all; done) | grind)); have n1_ := Aside0.mk (Kd.R_reok rfl hy0 (fun k_ e_ => HO_9.out.1 k_ e_)); have n2_ := Aside0.mk (Kd.R_mono (ok' := fun k_ => some k_ ≠ (.slice Ao67 t328.length co67 : Value).ownBlock ∧ some k_ ≠ (.slice Ao66 t341.length co66 : Value).ownBlock ∧ some k_ ≠ (.slice Ao59 t358.length co59 : Value).ownBlock) (Kd.R_keptB (HO_337002.out) hkp (fun k_ hk_ hs_ => by first | exact (hk_.2.1) hs_ | (simp_all; done) | grind)) (fun k_ hk_ => by first | exact ⟨hk_.1.1, hk_.1.2.1, hk_.1.2.2⟩ | (simp_all; done) | grind)); have n3_ := Aside0.mk (Kd.R_mono (ok' := fun k_ => some k_ ≠ (.slice Ao67 t328.length co67 : Value).ownBlock ∧ some k_ ≠ (.slice Ao66 t341.length co66 : Value).ownBlock ∧ some k_ ≠ (.slice Ao55 t356.length co55 : Value).ownBlock) (Kd.R_keptB (HO_341000.out) hkp (fun k_ hk_ hs_ => by first | exact (hk_.2.1) hs_ | (simp_all; done) | grind)) (fun k_ hk_ => by first | exact ⟨hk_.1.1, hk_.1.2.1, hk_.1.2.2⟩ | (simp_all; done) | grind)); have n4_ := Aside0.mk (blk_kept (by (with_reducible repeat (first | refine blk_drewN ?_ _ | refine blk_drew ?_ | refine blk_alloc ?_ _)); exact BK316.out) hkp (fun hs_ => (fun e_ => (Kd.R_ne HO_9.out BK316.out (by decide)) e_) hs_)); have n5_ := Aside0.mk (blk_kept (by (with_reducible repeat (first | refine blk_drewN ?_ _ | refine blk_drew ?_ | refine blk_alloc ?_ _)); exact BK317.out) hkp (fun hs_ => (fun e_ => (Kd.R_ne HO_9.out BK317.out (by decide)) e_) hs_)); have n6_ := Aside0.mk (blk_kept (by (with_reducible repeat (first | refine blk_drewN ?_ _ | refine blk_drew ?_ | refine blk_alloc ?_ _)); exact BK336.out) hkp (fun hs_ => (fun e_ => (Kd.R_ne HO_9.out BK336.out (by decide)) e_) hs_)); have n7_ := Aside0.mk (blk_kept (by (with_reducible repeat (first | refine blk_drewN ?_ _ | refine blk_drew ?_ | refine blk_alloc ?_ _)); exact BK340.out) hkp (fun hs_ => (fun e_ => (Kd.R_ne HO_9.out BK340.out (by decide)) e_) hs_)); have n8_ := Aside0.mk (hb); clear HO_6; clear HO_9; clear HO_337002; clear HO_341000; clear BK316; clear BK317; clear BK336; clear BK340; clear HB; have HO_6 := n0_; have HO_9 := n1_; have HO_337002 := n2_; have HO_341000 := n3_; have BK316 := n4_; have BK317 := n5_; have BK336 := n6_; have BK340 := n7_; have HB := n8_; clear n0_ n1_ n2_ n3_ n4_ n5_ n6_ n7_ n8_; (try clear hb); (try clear hkp); (try clear hy0)) | ((with_reducible refine gate_callee (f := 30) rfl ?_); refine goesL_ (some 69) rfl rfl Try.func30 (by kernel_rfl) rfl #[.slice Ao66 t361.length co66, .int .i64 1] rfl (by (try simp only [List.map_toArray, List.map_cons, List.map_nil]); first | done | (rw [show t361.length = t341.length from (Kd.R_reads' HO_9.out).1.symm] <;> rfl) | rfl | (simp only [List.length_drop, List.length_take]; rfl)) ?_; (with_reducible refine (laws_heldIntS.calls kj34 _ _ t361 1 t362 _ ?side1 ?side2 A84.out).mono ?_); (case side1 => repeat (first | exact (Kd.R_reads' HO_9.out).2.2 | (with_reducible refine Kd.C_alloc ?_ _) | (with_reducible refine Kd.C_drewN ?_ _) | (with_reducible refine Kd.C_drew ?_))); (case side2 => rw [show t361.length = t341.length from (Kd.R_reads' HO_9.out).1.symm]; exact (Kd.R_reads' HO_9.out).2.1); rintro e w' ⟨rfl, ⟨nd, rfl⟩⟩; refine ⟨_, rfl, ?_⟩))
                            (try (rw [drewN_self w95]; generalize hq_ : World.drewN w95 _ = w95; have n0_ : Aside0 (Kd.R (Kd.int .i64) 3 w95 w.heap.size (fun k_ => some k_ ≠ (.slice Ao59 t358.length co59 : Value).ownBlock ∧ some k_ ≠ (.slice Ao67 t328.length co67 : Value).ownBlock ∧ some k_ ≠ (.slice Ao66 t341.length co66 : Value).ownBlock) (.slice Ao55 t356.length co55) t356) := ⟨by rw [← hq_]; exact (by (with_reducible repeat (first | apply Kd.R_alloc | apply Kd.R_drewN | apply Kd.R_drew)); exact Kd.R_mono HO_337002.out (fun _ hk => ⟨hk.2.2, ⟨hk.1, hk.2.1⟩⟩))⟩; have n1_ : Aside0 (Kd.R (Kd.int .i64) 3 w95 w.heap.size (fun k_ => some k_ ≠ (.slice Ao55 t356.length co55 : Value).ownBlock ∧ some k_ ≠ (.slice Ao67 t328.length co67 : Value).ownBlock ∧ some k_ ≠ (.slice Ao66 t341.length co66 : Value).ownBlock) (.slice Ao59 t358.length co59) t358) := ⟨by rw [← hq_]; exact (by (with_reducible repeat (first | apply Kd.R_alloc | apply Kd.R_drewN | apply Kd.R_drew)); exact Kd.R_mono HO_341000.out (fun _ hk => ⟨hk.2.2, ⟨hk.1, hk.2.1⟩⟩))⟩; have n2_ : Aside0 (Kd.R (Kd.int .i64) 3 w95 w.heap.size (fun k_ => some k_ ≠ (.slice Ao55 t356.length co55 : Value).ownBlock ∧ some k_ ≠ (.slice Ao59 t358.length co59 : Value).ownBlock ∧ some k_ ≠ (.slice Ao66 t341.length co66 : Value).ownBlock) (.slice Ao67 t328.length co67) t328) := ⟨by rw [← hq_]; exact (by (with_reducible repeat (first | apply Kd.R_alloc | apply Kd.R_drewN | apply Kd.R_drew)); exact Kd.R_mono HO_6.out (fun _ hk => ⟨hk.2.1, ⟨hk.2.2, hk.1⟩⟩))⟩; have n3_ : Aside0 (Kd.R (Kd.int .i64) 3 w95 w.heap.size (fun k_ => some k_ ≠ (.slice Ao55 t356.length co55 : Value).ownBlock ∧ some k_ ≠ (.slice Ao59 t358.length co59 : Value).ownBlock ∧ some k_ ≠ (.slice Ao67 t328.length co67 : Value).ownBlock) (.slice Ao66 t341.length co66) t361) := ⟨by rw [← hq_]; exact (by (with_reducible repeat (first | apply Kd.R_alloc | apply Kd.R_drewN | apply Kd.R_drew)); exact Kd.R_mono HO_9.out (fun _ hk => ⟨hk.2.1, ⟨hk.2.2, hk.1⟩⟩))⟩; have n4_ : Aside0 (w95.heap[gb316]? = some (.cells #[.int .i64 a0_0, .int .i64 a0_1, .slice A0_2 l0_2.length c0_2] 26 (0, 0))) := ⟨by rw [← hq_]; exact (by (with_reducible repeat (first | refine blk_drewN ?_ _ | refine blk_drew ?_ | refine blk_alloc ?_ _)); exact BK316.out)⟩; have n5_ : Aside0 (w95.heap[gb317]? = some (.cells #[.slice A1_0 l1_0.length c1_0] 28 (0, 0))) := ⟨by rw [← hq_]; exact (by (with_reducible repeat (first | refine blk_drewN ?_ _ | refine blk_drew ?_ | refine blk_alloc ?_ _)); exact BK317.out)⟩; have n6_ : Aside0 (w95.heap[gb336]? = some (.cells #[.int .i64 t331, .int .i64 t332, .slice Ao55 t356.length co55] 34 (0, 0))) := ⟨by rw [← hq_]; exact (by (with_reducible repeat (first | refine blk_drewN ?_ _ | refine blk_drew ?_ | refine blk_alloc ?_ _)); exact BK336.out)⟩; have n7_ : Aside0 (w95.heap[gb340]? = some (.cells #[.slice Ao59 t358.length co59] 36 (0, 0))) := ⟨by rw [← hq_]; exact (by (with_reducible repeat (first | refine blk_drewN ?_ _ | refine blk_drew ?_ | refine blk_alloc ?_ _)); exact BK340.out)⟩; have n8_ : Aside0 (Below w.heap.size w w95) := ⟨by rw [← hq_]; exact (by repeat (first | (with_reducible first | exact HB.out | apply below_alloc | apply pw_below_drewN | apply below_drew1 | refine below_set ?_ GE316.out | refine below_set ?_ GE317.out | refine below_set ?_ GE336.out | refine below_set ?_ GE340.out) | exact HB.out))⟩; clear HO_337002 HO_341000 HO_6 HO_9 BK316 BK317 BK336 BK340 HB hq_; have HO_337002 := n0_; have HO_341000 := n1_; have HO_6 := n2_; have HO_9 := n3_; have BK316 := n4_; have BK317 := n5_; have BK336 := n6_; have BK340 := n7_; have HB := n8_; clear n0_ n1_ n2_ n3_ n4_ n5_ n6_ n7_ n8_))
                            have n0_ := Aside0.mk (Kd.R_drew HO_6.out)
                            have n1_ := Aside0.mk (Kd.R_drew HO_9.out)
                            have n2_ := Aside0.mk (Kd.R_drew HO_337002.out)
                            have n3_ := Aside0.mk (Kd.R_drew HO_341000.out)
                            have n4_ := Aside0.mk (blk_drew BK316.out)
                            have n5_ := Aside0.mk (blk_drew BK317.out)
                            have n6_ := Aside0.mk (blk_drew BK336.out)
                            have n7_ := Aside0.mk (blk_drew BK340.out)
                            have n8_ := Aside0.mk (below_drew1 HB.out)
                            clear HO_6
                            clear HO_9
                            clear HO_337002
                            clear HO_341000
                            clear BK316
                            clear BK317
                            clear BK336
                            clear BK340
                            clear HB
                            have HO_6 := n0_
                            have HO_9 := n1_
                            have HO_337002 := n2_
                            have HO_341000 := n3_
                            have BK316 := n4_
                            have BK317 := n5_
                            have BK336 := n6_
                            have BK340 := n7_
                            have HB := n8_
                            clear n0_ n1_ n2_ n3_ n4_ n5_ n6_ n7_ n8_
                            refine start_ (n := 6) (S := fun w' => w'.cell? ⟨gb316, 0, none⟩ = some (.int .i64 a0_0) ∧ w'.cell? ⟨gb316, 1, none⟩ = some (.int .i64 a0_1) ∧ w'.cell? ⟨gb316, 2, none⟩ = some (.slice A0_2 l0_2.length c0_2) ∧ w'.cell? ⟨gb317, 0, none⟩ = some (.slice A1_0 l1_0.length c1_0)) (ds := []) #[false, false, false, false, false, false] (by kernel_rfl) rfl rfl ⟨(blk_cell BK316.out 0).trans rfl, (blk_cell BK316.out 1).trans rfl, (blk_cell BK316.out 2).trans rfl, (blk_cell BK317.out 0).trans rfl⟩ (fun hHeld => ?_)
                            generalize w95.drew = w96 at HO_6 HO_9 HO_337002 HO_341000 BK316 BK317 BK336 BK340 HB hHeld ⊢
                            refine take_ (i := 0) (N := some 75) (v := ?_) (a' := ?_) #[true, false, false, false, false, false] rfl rfl (by kernel_rfl) (fun _ _ _ h => h) (Or.inl ⟨by rfl, ?_⟩) hHeld ?_ ?_
                            rotate_left
                            · rintro w' ⟨s0, s1, s2, s3⟩
                              go_simp
                              with_reducible rfl
                            rotate_left
                            · simp only [Act.put, List.setIfInBounds_toArray, List.set_cons_zero, List.set_cons_succ, i64_w, i32_w]
                              rfl
                            refine take_ (i := 2) (N := some 77) (v := ?_) (a' := ?_) #[true, false, true, false, false, false] rfl rfl (by kernel_rfl) (fun _ _ _ h => h) (Or.inl ⟨by rfl, ?_⟩) hHeld ?_ ?_
                            rotate_left
                            · rintro w' ⟨s0, s1, s2, s3⟩
                              go_simp
                              with_reducible rfl
                            rotate_left
                            · simp only [Act.put, List.setIfInBounds_toArray, List.set_cons_zero, List.set_cons_succ, i64_w, i32_w]
                              rfl
                            refine one_ (i := 1) (N := some 76) #[true, true, true, false, false, false] rfl rfl (by kernel_rfl) (by decide) (fun K hK => ?_)
                            refine goes_ Try.func18 (by kernel_rfl) rfl #[.agg #[.int .i64 a0_0, .int .i64 a0_1, .slice A0_2 l0_2.length c0_2]] (by rfl) rfl rfl (by (try simp only [List.map_toArray, List.map_cons, List.map_nil]); first | done | rfl | (simp only [List.length_drop, List.length_take]; rfl)) ?_
                            with_reducible refine (laws_toMesh.calls kj34 a0_0 a0_1 _ _ l0_2 t363 t364 t365 _ ?side1 ?side2 A87.out).mono ?_
                            (case side1 => repeat (first | exact (Kd.C_below HR0_2.out HB.out) | (with_reducible refine Kd.C_alloc ?_ _) | (with_reducible refine Kd.C_drewN ?_ _) | (with_reducible refine Kd.C_drew ?_)))
                            (case side2 => exact HC0_2.out)
                            rintro e w97 ⟨v366, rfl, ho0, hb⟩
                            refine ⟨_, rfl, ?_⟩
                            have n0_ := Aside0.mk (Kd.R_elder' (by (with_reducible repeat (first | apply Kd.R_alloc | apply Kd.R_drewN | apply Kd.R_drew)); exact HO_6.out) (Kd.R_base ho0) hb)
                            have n1_ := Aside0.mk (Kd.R_elder' (by (with_reducible repeat (first | apply Kd.R_alloc | apply Kd.R_drewN | apply Kd.R_drew)); exact HO_9.out) (Kd.R_base ho0) hb)
                            have n2_ := Aside0.mk (Kd.R_elder' (by (with_reducible repeat (first | apply Kd.R_alloc | apply Kd.R_drewN | apply Kd.R_drew)); exact HO_337002.out) (Kd.R_base ho0) hb)
                            have n3_ := Aside0.mk (Kd.R_elder' (by (with_reducible repeat (first | apply Kd.R_alloc | apply Kd.R_drewN | apply Kd.R_drew)); exact HO_341000.out) (Kd.R_base ho0) hb)
                            have n4_ := Aside0.mk (Kd.R_lower (Kd.R_new' (Kd.R_new' (Kd.R_new' (Kd.R_new' ho0 (Kd.R_lt (by (with_reducible repeat (first | apply Kd.R_alloc | apply Kd.R_drewN | apply Kd.R_drew)); exact HO_6.out))) (Kd.R_lt (by (with_reducible repeat (first | apply Kd.R_alloc | apply Kd.R_drewN | apply Kd.R_drew)); exact HO_9.out))) (Kd.R_lt (by (with_reducible repeat (first | apply Kd.R_alloc | apply Kd.R_drewN | apply Kd.R_drew)); exact HO_337002.out))) (Kd.R_lt (by (with_reducible repeat (first | apply Kd.R_alloc | apply Kd.R_drewN | apply Kd.R_drew)); exact HO_341000.out))) (below_size (by repeat (first | (with_reducible first | exact HB.out | apply below_alloc | apply pw_below_drewN | apply below_drew1 | refine below_set ?_ GE316.out | refine below_set ?_ GE317.out | refine below_set ?_ GE336.out | refine below_set ?_ GE340.out) | exact HB.out))))
                            have n5_ := Aside0.mk (blk_below (g := gb316) (o := .cells #[.int .i64 a0_0, .int .i64 a0_1, .slice A0_2 l0_2.length c0_2] 26 (0, 0)) (by (with_reducible repeat (first | refine blk_drewN ?_ _ | refine blk_drew ?_ | refine blk_alloc ?_ _)); exact BK316.out) hb)
                            have n6_ := Aside0.mk (blk_below (g := gb317) (o := .cells #[.slice A1_0 l1_0.length c1_0] 28 (0, 0)) (by (with_reducible repeat (first | refine blk_drewN ?_ _ | refine blk_drew ?_ | refine blk_alloc ?_ _)); exact BK317.out) hb)
                            have n7_ := Aside0.mk (blk_below (g := gb336) (o := .cells #[.int .i64 t331, .int .i64 t332, .slice Ao55 t356.length co55] 34 (0, 0)) (by (with_reducible repeat (first | refine blk_drewN ?_ _ | refine blk_drew ?_ | refine blk_alloc ?_ _)); exact BK336.out) hb)
                            have n8_ := Aside0.mk (blk_below (g := gb340) (o := .cells #[.slice Ao59 t358.length co59] 36 (0, 0)) (by (with_reducible repeat (first | refine blk_drewN ?_ _ | refine blk_drew ?_ | refine blk_alloc ?_ _)); exact BK340.out) hb)
                            have n9_ := Aside0.mk (below_step (by repeat (first | (with_reducible first | exact HB.out | apply below_alloc | apply pw_below_drewN | apply below_drew1 | refine below_set ?_ GE316.out | refine below_set ?_ GE317.out | refine below_set ?_ GE336.out | refine below_set ?_ GE340.out) | exact HB.out)) hb)
                            clear HO_6
                            clear HO_9
                            clear HO_337002
                            clear HO_341000
                            clear BK316
                            clear BK317
                            clear BK336
                            clear BK340
                            clear HB
                            have HO_6 := n0_
                            have HO_9 := n1_
                            have HO_337002 := n2_
                            have HO_341000 := n3_
                            have HO367 := n4_
                            have BK316 := n5_
                            have BK317 := n6_
                            have BK336 := n7_
                            have BK340 := n8_
                            have HB := n9_
                            clear n0_ n1_ n2_ n3_ n4_ n5_ n6_ n7_ n8_ n9_
                            (try clear hb)
                            (try clear hb2)
                            (try clear hk)
                            (try clear hi)
                            (try clear ho0)
                            refine hK.out _ _ ⟨(blk_cell BK316.out 0).trans rfl, (blk_cell BK316.out 1).trans rfl, (blk_cell BK316.out 2).trans rfl, (blk_cell BK317.out 0).trans rfl⟩ (fun hHeld => ?_)
                            clear hK K
                            refine norm_ (a' := ?_) ?_ ?_
                            rotate_left
                            · show Act.put _ (some 76) _ = _
                              simp only [Act.put, List.setIfInBounds_toArray, List.set_cons_zero, List.set_cons_succ, i64_w, i32_w]
                              rfl
                            refine one_ (i := 3) (N := some 78) #[true, true, true, true, false, false] rfl rfl (by kernel_rfl) (by decide) (fun K hK => ?_)
                            refine goes_ Try.func19 (by kernel_rfl) rfl #[.agg #[.slice A1_0 l1_0.length c1_0]] (by rfl) rfl rfl (by (try simp only [List.map_toArray, List.map_cons, List.map_nil]); first | done | rfl | (simp only [List.length_drop, List.length_take]; rfl)) ?_
                            with_reducible refine (laws_toTable.calls kj34 _ _ l1_0 t368 _ ?side1 ?side2 A88.out).mono ?_
                            (case side1 => repeat (first | exact (Kd.C_below HR1_0.out HB.out) | (with_reducible refine Kd.C_alloc ?_ _) | (with_reducible refine Kd.C_drewN ?_ _) | (with_reducible refine Kd.C_drew ?_)))
                            (case side2 => exact HC1_0.out)
                            rintro e w98 ⟨v369, rfl, ho0, hb⟩
                            refine ⟨_, rfl, ?_⟩
                            have n0_ := Aside0.mk (Kd.R_elder' (by (with_reducible repeat (first | apply Kd.R_alloc | apply Kd.R_drewN | apply Kd.R_drew)); exact HO_6.out) (Kd.R_base ho0) hb)
                            have n1_ := Aside0.mk (Kd.R_elder' (by (with_reducible repeat (first | apply Kd.R_alloc | apply Kd.R_drewN | apply Kd.R_drew)); exact HO_9.out) (Kd.R_base ho0) hb)
                            have n2_ := Aside0.mk (Kd.R_elder' (by (with_reducible repeat (first | apply Kd.R_alloc | apply Kd.R_drewN | apply Kd.R_drew)); exact HO_337002.out) (Kd.R_base ho0) hb)
                            have n3_ := Aside0.mk (Kd.R_elder' (by (with_reducible repeat (first | apply Kd.R_alloc | apply Kd.R_drewN | apply Kd.R_drew)); exact HO_341000.out) (Kd.R_base ho0) hb)
                            have n4_ := Aside0.mk (Kd.R_elder' (by (with_reducible repeat (first | apply Kd.R_alloc | apply Kd.R_drewN | apply Kd.R_drew)); exact HO367.out) (Kd.R_base ho0) hb)
                            have n5_ := Aside0.mk (Kd.R_lower (Kd.R_new' (Kd.R_new' (Kd.R_new' (Kd.R_new' (Kd.R_new' ho0 (Kd.R_lt (by (with_reducible repeat (first | apply Kd.R_alloc | apply Kd.R_drewN | apply Kd.R_drew)); exact HO_6.out))) (Kd.R_lt (by (with_reducible repeat (first | apply Kd.R_alloc | apply Kd.R_drewN | apply Kd.R_drew)); exact HO_9.out))) (Kd.R_lt (by (with_reducible repeat (first | apply Kd.R_alloc | apply Kd.R_drewN | apply Kd.R_drew)); exact HO_337002.out))) (Kd.R_lt (by (with_reducible repeat (first | apply Kd.R_alloc | apply Kd.R_drewN | apply Kd.R_drew)); exact HO_341000.out))) (Kd.R_lt (by (with_reducible repeat (first | apply Kd.R_alloc | apply Kd.R_drewN | apply Kd.R_drew)); exact HO367.out))) (below_size (by repeat (first | (with_reducible first | exact HB.out | apply below_alloc | apply pw_below_drewN | apply below_drew1 | refine below_set ?_ GE316.out | refine below_set ?_ GE317.out | refine below_set ?_ GE336.out | refine below_set ?_ GE340.out) | exact HB.out))))
                            have n6_ := Aside0.mk (blk_below (g := gb316) (o := .cells #[.int .i64 a0_0, .int .i64 a0_1, .slice A0_2 l0_2.length c0_2] 26 (0, 0)) (by (with_reducible repeat (first | refine blk_drewN ?_ _ | refine blk_drew ?_ | refine blk_alloc ?_ _)); exact BK316.out) hb)
                            have n7_ := Aside0.mk (blk_below (g := gb317) (o := .cells #[.slice A1_0 l1_0.length c1_0] 28 (0, 0)) (by (with_reducible repeat (first | refine blk_drewN ?_ _ | refine blk_drew ?_ | refine blk_alloc ?_ _)); exact BK317.out) hb)
                            have n8_ := Aside0.mk (blk_below (g := gb336) (o := .cells #[.int .i64 t331, .int .i64 t332, .slice Ao55 t356.length co55] 34 (0, 0)) (by (with_reducible repeat (first | refine blk_drewN ?_ _ | refine blk_drew ?_ | refine blk_alloc ?_ _)); exact BK336.out) hb)
                            have n9_ := Aside0.mk (blk_below (g := gb340) (o := .cells #[.slice Ao59 t358.length co59] 36 (0, 0)) (by (with_reducible repeat (first | refine blk_drewN ?_ _ | refine blk_drew ?_ | refine blk_alloc ?_ _)); exact BK340.out) hb)
                            have n10_ := Aside0.mk (below_step (by repeat (first | (with_reducible first | exact HB.out | apply below_alloc | apply pw_below_drewN | apply below_drew1 | refine below_set ?_ GE316.out | refine below_set ?_ GE317.out | refine below_set ?_ GE336.out | refine below_set ?_ GE340.out) | exact HB.out)) hb)
                            clear HO_6
                            clear HO_9
                            clear HO_337002
                            clear HO_341000
                            clear HO367
                            clear BK316
                            clear BK317
                            clear BK336
                            clear BK340
                            clear HB
                            have HO_6 := n0_
                            have HO_9 := n1_
                            have HO_337002 := n2_
                            have HO_341000 := n3_
                            have HO367 := n4_
                            have HO370 := n5_
                            have BK316 := n6_
                            have BK317 := n7_
                            have BK336 := n8_
                            have BK340 := n9_
                            have HB := n10_
                            clear n0_ n1_ n2_ n3_ n4_ n5_ n6_ n7_ n8_ n9_ n10_
                            (try clear hb)
                            (try clear hb2)
                            (try clear hk)
                            (try clear hi)
                            (try clear ho0)
                            obtain ⟨Ao99, co99, eo99⟩ := Kd.R_slice HO367.out
                            (first | subst eo99 | (injection eo99 with f1_ f2_ f3_; have f4_ := f1_.symm; have f5_ := f3_.symm; clear f1_ f2_ f3_; subst f4_; subst f5_))
                            obtain ⟨Ao100, co100, eo100⟩ := Kd.R_slice HO370.out
                            (first | subst eo100 | (injection eo100 with f1_ f2_ f3_; have f4_ := f1_.symm; have f5_ := f3_.symm; clear f1_ f2_ f3_; subst f4_; subst f5_))
                            refine hK.out _ _ ⟨(blk_cell BK316.out 0).trans rfl, (blk_cell BK316.out 1).trans rfl, (blk_cell BK316.out 2).trans rfl, (blk_cell BK317.out 0).trans rfl⟩ (fun hHeld => ?_)
                            clear hK K
                            refine norm_ (a' := ?_) ?_ ?_
                            rotate_left
                            · show Act.put _ (some 78) _ = _
                              simp only [Act.put, List.setIfInBounds_toArray, List.set_cons_zero, List.set_cons_succ, i64_w, i32_w]
                              rfl
                            refine one_ (i := 4) (N := some 79) #[true, true, true, true, true, false] rfl rfl (by kernel_rfl) (by decide) (fun K hK => ?_)
                            refine goes_ Try.func26 (by kernel_rfl) rfl #[.agg #[.int .i64 t363, .int .i64 t364, .slice Ao99 t365.length co99], .agg #[.slice Ao100 t368.length co100]] (by rfl) rfl rfl (by (try simp only [List.map_toArray, List.map_cons, List.map_nil]); first | done | rfl | (simp only [List.length_drop, List.length_take]; rfl)) ?_
                            with_reducible refine (impl_TurnsOf.calls kj34 t363 t364 _ _ t365 _ _ t368 t371 _ ?side1 ?side2 ?side3 ?side4 A89.out).mono ?_
                            (case side1 => repeat (first | exact (Kd.R_reads' HO367.out).2.2 | (with_reducible refine Kd.C_alloc ?_ _) | (with_reducible refine Kd.C_drewN ?_ _) | (with_reducible refine Kd.C_drew ?_)))
                            (case side2 => exact (Kd.R_reads' HO367.out).2.1)
                            (case side3 => repeat (first | exact (Kd.R_reads' HO370.out).2.2 | (with_reducible refine Kd.C_alloc ?_ _) | (with_reducible refine Kd.C_drewN ?_ _) | (with_reducible refine Kd.C_drew ?_)))
                            (case side4 => exact (Kd.R_reads' HO370.out).2.1)
                            rintro e w101 ⟨v372, rfl, ho0, hb⟩
                            refine ⟨_, rfl, ?_⟩
                            have n0_ := Aside0.mk (Kd.R_elder' (by (with_reducible repeat (first | apply Kd.R_alloc | apply Kd.R_drewN | apply Kd.R_drew)); exact HO_6.out) (Kd.R_base ho0) hb)
                            have n1_ := Aside0.mk (Kd.R_elder' (by (with_reducible repeat (first | apply Kd.R_alloc | apply Kd.R_drewN | apply Kd.R_drew)); exact HO_9.out) (Kd.R_base ho0) hb)
                            have n2_ := Aside0.mk (Kd.R_elder' (by (with_reducible repeat (first | apply Kd.R_alloc | apply Kd.R_drewN | apply Kd.R_drew)); exact HO_337002.out) (Kd.R_base ho0) hb)
                            have n3_ := Aside0.mk (Kd.R_elder' (by (with_reducible repeat (first | apply Kd.R_alloc | apply Kd.R_drewN | apply Kd.R_drew)); exact HO_341000.out) (Kd.R_base ho0) hb)
                            have n4_ := Aside0.mk (Kd.R_elder' (by (with_reducible repeat (first | apply Kd.R_alloc | apply Kd.R_drewN | apply Kd.R_drew)); exact HO367.out) (Kd.R_base ho0) hb)
                            have n5_ := Aside0.mk (Kd.R_elder' (by (with_reducible repeat (first | apply Kd.R_alloc | apply Kd.R_drewN | apply Kd.R_drew)); exact HO370.out) (Kd.R_base ho0) hb)
                            have n6_ := Aside0.mk (Kd.R_lower (Kd.R_new' (Kd.R_new' (Kd.R_new' (Kd.R_new' (Kd.R_new' (Kd.R_new' ho0 (Kd.R_lt (by (with_reducible repeat (first | apply Kd.R_alloc | apply Kd.R_drewN | apply Kd.R_drew)); exact HO_6.out))) (Kd.R_lt (by (with_reducible repeat (first | apply Kd.R_alloc | apply Kd.R_drewN | apply Kd.R_drew)); exact HO_9.out))) (Kd.R_lt (by (with_reducible repeat (first | apply Kd.R_alloc | apply Kd.R_drewN | apply Kd.R_drew)); exact HO_337002.out))) (Kd.R_lt (by (with_reducible repeat (first | apply Kd.R_alloc | apply Kd.R_drewN | apply Kd.R_drew)); exact HO_341000.out))) (Kd.R_lt (by (with_reducible repeat (first | apply Kd.R_alloc | apply Kd.R_drewN | apply Kd.R_drew)); exact HO367.out))) (Kd.R_lt (by (with_reducible repeat (first | apply Kd.R_alloc | apply Kd.R_drewN | apply Kd.R_drew)); exact HO370.out))) (below_size (by repeat (first | (with_reducible first | exact HB.out | apply below_alloc | apply pw_below_drewN | apply below_drew1 | refine below_set ?_ GE316.out | refine below_set ?_ GE317.out | refine below_set ?_ GE336.out | refine below_set ?_ GE340.out) | exact HB.out))))
                            have n7_ := Aside0.mk (blk_below (g := gb316) (o := .cells #[.int .i64 a0_0, .int .i64 a0_1, .slice A0_2 l0_2.length c0_2] 26 (0, 0)) (by (with_reducible repeat (first | refine blk_drewN ?_ _ | refine blk_drew ?_ | refine blk_alloc ?_ _)); exact BK316.out) hb)
                            have n8_ := Aside0.mk (blk_below (g := gb317) (o := .cells #[.slice A1_0 l1_0.length c1_0] 28 (0, 0)) (by (with_reducible repeat (first | refine blk_drewN ?_ _ | refine blk_drew ?_ | refine blk_alloc ?_ _)); exact BK317.out) hb)
                            have n9_ := Aside0.mk (blk_below (g := gb336) (o := .cells #[.int .i64 t331, .int .i64 t332, .slice Ao55 t356.length co55] 34 (0, 0)) (by (with_reducible repeat (first | refine blk_drewN ?_ _ | refine blk_drew ?_ | refine blk_alloc ?_ _)); exact BK336.out) hb)
                            have n10_ := Aside0.mk (blk_below (g := gb340) (o := .cells #[.slice Ao59 t358.length co59] 36 (0, 0)) (by (with_reducible repeat (first | refine blk_drewN ?_ _ | refine blk_drew ?_ | refine blk_alloc ?_ _)); exact BK340.out) hb)
                            have n11_ := Aside0.mk (below_step (by repeat (first | (with_reducible first | exact HB.out | apply below_alloc | apply pw_below_drewN | apply below_drew1 | refine below_set ?_ GE316.out | refine below_set ?_ GE317.out | refine below_set ?_ GE336.out | refine below_set ?_ GE340.out) | exact HB.out)) hb)
                            clear HO_6
                            clear HO_9
                            clear HO_337002
                            clear HO_341000
                            clear HO367
                            clear HO370
                            clear BK316
                            clear BK317
                            clear BK336
                            clear BK340
                            clear HB
                            have HO_6 := n0_
                            have HO_9 := n1_
                            have HO_337002 := n2_
                            have HO_341000 := n3_
                            have HO367 := n4_
                            have HO370 := n5_
                            have HO373 := n6_
                            have BK316 := n7_
                            have BK317 := n8_
                            have BK336 := n9_
                            have BK340 := n10_
                            have HB := n11_
                            clear n0_ n1_ n2_ n3_ n4_ n5_ n6_ n7_ n8_ n9_ n10_ n11_
                            (try clear hb)
                            (try clear hb2)
                            (try clear hk)
                            (try clear hi)
                            (try clear ho0)
                            refine hK.out _ _ ⟨(blk_cell BK316.out 0).trans rfl, (blk_cell BK316.out 1).trans rfl, (blk_cell BK316.out 2).trans rfl, (blk_cell BK317.out 0).trans rfl⟩ (fun hHeld => ?_)
                            clear hK K
                            refine norm_ (a' := ?_) ?_ ?_
                            rotate_left
                            · show Act.put _ (some 79) _ = _
                              simp only [Act.put, List.setIfInBounds_toArray, List.set_cons_zero, List.set_cons_succ, i64_w, i32_w]
                              rfl
                            refine pure_ (i := 5) (N := some 13) (v := ?_) (a' := ?_) #[true, true, true, true, true, true] rfl rfl (by kernel_rfl) (fun _ _ _ h => h) (Or.inl ⟨by rfl, ?_⟩) ?_ ?_
                            rotate_left
                            · intro w'
                              go_simp
                              with_reducible rfl
                            rotate_left
                            · simp only [Act.put, List.setIfInBounds_toArray, List.set_cons_zero, List.set_cons_succ, i64_w, i32_w]
                              rfl
                            refine done_ (by kernel_rfl) ?_
                            obtain ⟨Ao102, co102, eo102⟩ := Kd.R_slice HO373.out
                            subst eo102
                            try go_wp2_with (first | ((with_reducible refine gate_callee (f := 24) rfl ?_); refine goesL_ (some 82) rfl rfl Try.func24 (by kernel_rfl) rfl #[.slice Ao102 t371.length co102, .slice Ao67 t328.length co67] rfl (by (try simp only [List.map_toArray, List.map_cons, List.map_nil]); first | done | rfl | (simp only [List.length_drop, List.length_take]; rfl)) ?_; (with_reducible refine (laws_eqIntS.calls kj34 _ _ t371 _ _ t328 true _ ?side1 ?side2 ?side3 ?side4 A90.out).mono ?_); (case side1 => repeat (first | exact (Kd.R_reads' HO373.out).2.2 | (with_reducible refine Kd.C_alloc ?_ _) | (with_reducible refine Kd.C_drewN ?_ _) | (with_reducible refine Kd.C_drew ?_))); (case side2 => exact (Kd.R_reads' HO373.out).2.1); (case side3 => repeat (first | exact (Kd.R_reads' HO_6.out).2.2 | (with_reducible refine Kd.C_alloc ?_ _) | (with_reducible refine Kd.C_drewN ?_ _) | (with_reducible refine Kd.C_drew ?_))); (case side4 => exact (Kd.R_reads' HO_6.out).2.1); rintro e w' ⟨rfl, ⟨nd, rfl⟩⟩; refine ⟨_, rfl, ?_⟩) | ((with_reducible refine gate_callee (f := 30) rfl ?_); refine goesL_ (some 86) rfl rfl Try.func30 (by kernel_rfl) rfl #[.slice Ao66 t361.length co66, .int .i64 1] rfl (by (try simp only [List.map_toArray, List.map_cons, List.map_nil]); first | done | (rw [show t361.length = t341.length from (Kd.R_reads' HO_9.out).1.symm] <;> rfl) | rfl | (simp only [List.length_drop, List.length_take]; rfl)) ?_; (with_reducible refine (laws_heldIntS.calls kj34 _ _ t361 1 t375 _ ?side1 ?side2 A92.out).mono ?_); (case side1 => repeat (first | exact (Kd.R_reads' HO_9.out).2.2 | (with_reducible refine Kd.C_alloc ?_ _) | (with_reducible refine Kd.C_drewN ?_ _) | (with_reducible refine Kd.C_drew ?_))); (case side2 => rw [show t361.length = t341.length from (Kd.R_reads' HO_9.out).1.symm]; exact (Kd.R_reads' HO_9.out).2.1); rintro e w' ⟨rfl, ⟨nd, rfl⟩⟩; refine ⟨_, rfl, ?_⟩))
                            go_ret
                            exact ⟨by first | rfl | (simp [errW_none, errW_some] <;> rfl) | (simp [*, errW_none, errW_some] <;> rfl), by repeat (first | (with_reducible first | exact HB.out | apply below_alloc | apply pw_below_drewN | apply below_drew1 | refine below_set ?_ GE316.out | refine below_set ?_ GE317.out | refine below_set ?_ GE336.out | refine below_set ?_ GE340.out) | exact HB.out)⟩
                          · rw [if_neg c94] at H
                            have c94b0 : (t375 == t360) = false := beq_eq_false_iff_ne.mpr c94
                            have c94b1 : (t375 != t360) = true := bne_iff_ne.mpr c94
                            obtain rfl := Option.some.inj H
                            exact absurd HRT.out (by simp)
                      · replace c91 := Bool.eq_false_iff.mpr c91
                        subst c91
                        have H1 : (some false) = some r := by rw [if_neg (show ¬ (false = true) by decide)] at H; exact H
                        clear H
                        have H := H1
                        clear H1
                        obtain rfl := Option.some.inj H
                        exact absurd HRT.out (by simp)
                    · rw [if_neg c86] at H
                      have c86b0 : (t362 == t360) = false := beq_eq_false_iff_ne.mpr c86
                      have c86b1 : (t362 != t360) = true := bne_iff_ne.mpr c86
                      obtain rfl := Option.some.inj H
                      exact absurd HRT.out (by simp)
          · replace c32 := Bool.eq_false_iff.mpr c32
            subst c32
            have H1 : (some false) = some r := by rw [if_neg (show ¬ (false = true) by decide)] at H; exact H
            clear H
            have H := H1
            clear H1
            obtain rfl := Option.some.inj H
            exact absurd HRT.out (by simp)
        · replace c29 := Bool.eq_false_iff.mpr c29
          subst c29
          have H1 : (some false) = some r := by rw [if_neg (show ¬ (false = true) by decide)] at H; exact H
          clear H
          have H := H1
          clear H1
          obtain rfl := Option.some.inj H
          exact absurd HRT.out (by simp)
      · replace c26 := Bool.eq_false_iff.mpr c26
        subst c26
        have H1 : (some false) = some r := by rw [if_neg (show ¬ (false = true) by decide)] at H; exact H
        clear H
        have H := H1
        clear H1
        obtain rfl := Option.some.inj H
        exact absurd HRT.out (by simp)

/-- THE ONE PURE STATEMENT of laws_FnExactTurnsOf. -/
def laws_FnExactTurnsOf.Pure : Prop := ∀ (a0_0 : Int) (a0_1 : Int) (l0_2 : List Int) (l1_0 : List Int), (Lit.int .i64 a0_0).wf = true → (Lit.int .i64 a0_1).wf = true → l0_2.length ≤ maxLen → (∀ y ∈ l0_2, (Lit.int .i64 y).wf = true) → l1_0.length ≤ maxLen → (∀ y ∈ l1_0, (Lit.int .i64 y).wf = true) → ∃ k, laws_FnExactTurnsOf.f k a0_0 a0_1 l0_2 l1_0 = some true
theorem laws_FnExactTurnsOf.walk (P : laws_FnExactTurnsOf.Pure) (a0_0 : Int) (a0_1 : Int) (A0_2 : Option Addr) (c0_2 : Nat) (l0_2 : List Int) (A1_0 : Option Addr) (c1_0 : Nat) (l1_0 : List Int) (w : World) (hr0_2 : Kd.C (Kd.int .i64) w A0_2 l0_2.length l0_2) (hc0_2 : l0_2.length ≤ c0_2) (hr1_0 : Kd.C (Kd.int .i64) w A1_0 l1_0.length l1_0) (hc1_0 : l1_0.length ≤ c1_0) (hw0 : (Lit.int .i64 a0_0).wf = true) (hw1 : (Lit.int .i64 a0_1).wf = true) (hw2 : l0_2.length ≤ maxLen) (hw3 : (∀ y ∈ l0_2, (Lit.int .i64 y).wf = true)) (hw4 : l1_0.length ≤ maxLen) (hw5 : (∀ y ∈ l1_0, (Lit.int .i64 y).wf = true)) :
    Calls Try.prog 4 #[.agg #[.int .i64 a0_0, .int .i64 a0_1, .slice A0_2 l0_2.length c0_2], .agg #[.slice A1_0 l1_0.length c1_0]] w fun e w' => e = .returned (.bool true) ∧ Below w.heap.size w w' := by
  have h := P a0_0 a0_1 l0_2 l1_0 hw0 hw1 hw2 hw3 hw4 hw5
  obtain ⟨k, h⟩ := h
  refine (laws_FnExactTurnsOf.calls k a0_0 a0_1 A0_2 c0_2 l0_2 A1_0 c1_0 l1_0 true w hr0_2 hc0_2 hr1_0 hc1_0 rfl h).mono ?_
  rintro e w' ⟨rfl, hd⟩
  exact ⟨rfl, hd⟩


end Go.Proofs.Ytmfkgnfjjfnfmaa.XT
