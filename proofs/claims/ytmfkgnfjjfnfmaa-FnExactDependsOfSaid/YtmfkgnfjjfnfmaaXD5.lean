/- What is proved: contracts of functions of the program (each: where its Lean function answers, the call returns that answer); written by a program of this session. -/
import Derived.Test.YtmfkgnfjjfnfmaaXD0
import Derived.Test.YtmfkgnfjjfnfmaaXD1
import Derived.Test.YtmfkgnfjjfnfmaaXD2
import Derived.Test.YtmfkgnfjjfnfmaaXD3
import Derived.Test.YtmfkgnfjjfnfmaaXD4
namespace Go.Proofs.Ytmfkgnfjjfnfmaa.XD
open Go.RowKit Go.Proofs.YtmfkgnfjjfnfmaaW.PrintWords Go.Proofs.YtmfkgnfjjfnfmaaW.PrintLast Go.Proofs.YtmfkgnfjjfnfmaaW.PrintMore
attribute [local go_sem] qbz qbx qcf qce qbr qbq qby qbw   -- for this text's walks alone
set_option linter.unusedVariables false
set_option linter.unusedSimpArgs false

attribute [local go_sem high] eqA83
/-! ### spec_TableOk: function 73 -/
mutual
def spec_TableOk.l0 : Nat → Int → Int → Int → Int → List Int → List Int → Option (Bool)
 | 0, _, _, _, _, _, _ => none
 | k + 1, x5, x6, x207000, x207001, x207002, x208000 => if x6 < x5 then (spec_TableOk.l1 k x5 x6 0 x207000 x207001 x207002 x208000) else (some true)
def spec_TableOk.l1 : Nat → Int → Int → Int → Int → Int → List Int → List Int → Option (Bool)
 | 0, _, _, _, _, _, _, _ => none
 | k + 1, x5, x6, x7, x207000, x207001, x207002, x208000 => if x7 < x5 then (if x6 = x7 then (if 0 ≤ (wrap64 ((wrap64 (x6 * x5)) + x6)) then (if (wrap64 ((wrap64 (x6 * x5)) + x6)) < (x208000.length : Int) then (if (rd x208000 (wrap64 ((wrap64 (x6 * x5)) + x6))) = 4 then (spec_TableOk.l1 k x5 x6 (wrap64 (x7 + 1)) x207000 x207001 x207002 x208000) else (some false)) else (none)) else (none)) else ((spec_l04Walk.f k x207000 x207001 x207002 x208000 x6 x7).bind fun t211 => (if (t211.length : Int) = 0 then (some false) else (spec_TableOk.l1 k x5 x6 (wrap64 (x7 + 1)) x207000 x207001 x207002 x208000)))) else (spec_TableOk.l0 k x5 (wrap64 (x6 + 1)) x207000 x207001 x207002 x208000)
end
def spec_TableOk.f (k : Nat) (a0_0 : Int) (a0_1 : Int) (l0_2 : List Int) (l1_0 : List Int) : Option (Bool) := (spec_l04Sized.f k a0_0 a0_1 l0_2 l1_0).bind fun t208 => (if t208 = true then ((spec_NodeCount.f a0_0 a0_1).bind fun t209 => (spec_TableOk.l0 k t209 0 a0_0 a0_1 l0_2 l1_0)) else (some false))
theorem spec_TableOk.mono_l : ∀ k, (∀ y0 y1 y2 y3 y4 y5, LeO (spec_TableOk.l0 k y0 y1 y2 y3 y4 y5) (spec_TableOk.l0 (k + 1) y0 y1 y2 y3 y4 y5)) ∧ (∀ y0 y1 y2 y3 y4 y5 y6, LeO (spec_TableOk.l1 k y0 y1 y2 y3 y4 y5 y6) (spec_TableOk.l1 (k + 1) y0 y1 y2 y3 y4 y5 y6))
 | 0 => ⟨fun _ _ _ _ _ _ r h => by simp [spec_TableOk.l0] at h, fun _ _ _ _ _ _ _ r h => by simp [spec_TableOk.l1] at h⟩
 | k + 1 => by
  obtain ⟨ih0, ih1⟩ := spec_TableOk.mono_l k
  refine ⟨?_, ?_⟩
  ·intro y0 y1 y2 y3 y4 y5
   unfold spec_TableOk.l0
   repeat' first
   | (with_reducible exact ih0 _ _ _ _ _ _)
   | (with_reducible exact ih1 _ _ _ _ _ _ _)
   | (with_reducible exact spec_l04Sized.mono _ _ _ _ _)
   | (with_reducible exact spec_l04Walk.mono _ _ _ _ _ _ _)
   | (with_reducible exact LeO.refl _)
   | (with_reducible exact LeO.none _)
   | (with_reducible refine LeO.ite ?_ ?_)
   | (with_reducible refine LeO.bind ?_ (fun _ => ?_))
   | exact ih0 _ _ _ _ _ _
   | exact ih1 _ _ _ _ _ _ _
   | exact spec_l04Sized.mono _ _ _ _ _
   | exact spec_l04Walk.mono _ _ _ _ _ _ _
   | exact LeO.none _
   | refine LeO.ite ?_ ?_
   | refine LeO.bind ?_ (fun _ => ?_)
  ·intro y0 y1 y2 y3 y4 y5 y6
   unfold spec_TableOk.l1
   repeat' first
   | (with_reducible exact ih0 _ _ _ _ _ _)
   | (with_reducible exact ih1 _ _ _ _ _ _ _)
   | (with_reducible exact spec_l04Sized.mono _ _ _ _ _)
   | (with_reducible exact spec_l04Walk.mono _ _ _ _ _ _ _)
   | (with_reducible exact LeO.refl _)
   | (with_reducible exact LeO.none _)
   | (with_reducible refine LeO.ite ?_ ?_)
   | (with_reducible refine LeO.bind ?_ (fun _ => ?_))
   | exact ih0 _ _ _ _ _ _
   | exact ih1 _ _ _ _ _ _ _
   | exact spec_l04Sized.mono _ _ _ _ _
   | exact spec_l04Walk.mono _ _ _ _ _ _ _
   | exact LeO.none _
   | refine LeO.ite ?_ ?_
   | refine LeO.bind ?_ (fun _ => ?_)
theorem spec_TableOk.mono : ∀ a0 a1 a2 a3 k, LeO (spec_TableOk.f k a0 a1 a2 a3) (spec_TableOk.f (k + 1) a0 a1 a2 a3) := by
 intro a0 a1 a2 a3 k
 obtain ⟨ih0, ih1⟩ := spec_TableOk.mono_l k
 unfold spec_TableOk.f
 repeat' first
   | (with_reducible exact ih0 _ _ _ _ _ _)
   | (with_reducible exact ih1 _ _ _ _ _ _ _)
   | (with_reducible exact spec_l04Sized.mono _ _ _ _ _)
   | (with_reducible exact spec_l04Walk.mono _ _ _ _ _ _ _)
   | (with_reducible exact LeO.refl _)
   | (with_reducible exact LeO.none _)
   | (with_reducible refine LeO.ite ?_ ?_)
   | (with_reducible refine LeO.bind ?_ (fun _ => ?_))
   | exact ih0 _ _ _ _ _ _
   | exact ih1 _ _ _ _ _ _ _
   | exact spec_l04Sized.mono _ _ _ _ _
   | exact spec_l04Walk.mono _ _ _ _ _ _ _
   | exact LeO.none _
   | refine LeO.ite ?_ ?_
   | refine LeO.bind ?_ (fun _ => ?_)
set_option maxHeartbeats 8000000 in
set_option maxRecDepth 100000 in
theorem spec_TableOk.calls (k : Nat) (a0_0 : Int) (a0_1 : Int) (A0_2 : Option Addr) (c0_2 : Nat) (l0_2 : List Int) (A1_0 : Option Addr) (c1_0 : Nat) (l1_0 : List Int) (r : Bool) (w : World) (hr0_2 : Kd.C (Kd.int .i64) w A0_2 l0_2.length l0_2) (hc0_2 : l0_2.length ≤ c0_2) (hr1_0 : Kd.C (Kd.int .i64) w A1_0 l1_0.length l1_0) (hc1_0 : l1_0.length ≤ c1_0) (h : spec_TableOk.f k a0_0 a0_1 l0_2 l1_0 = some r) :
  Calls Try.prog 73 #[.agg #[.int .i64 a0_0, .int .i64 a0_1, .slice A0_2 l0_2.length c0_2], .agg #[.slice A1_0 l1_0.length c1_0]] w fun e w' => e = .returned (.bool r) ∧ Below w.heap.size w w' := by
 have hu34 := Try.underlying34
 have hu36 := Try.underlying36
 have hu32 := Try.underlying32
 have HR0_2 := qad.mk hr0_2
 have HC0_2 := qad.mk hc0_2
 clear hr0_2 hc0_2
 have HR1_0 := qad.mk hr1_0
 have HC1_0 := qad.mk hc1_0
 clear hr1_0 hc1_0
 have HB := qad.mk (Below.refl w.heap.size w)
 have H : ((spec_l04Sized.f k a0_0 a0_1 l0_2 l1_0).bind fun t208 => (if t208 = true then ((spec_NodeCount.f a0_0 a0_1).bind fun t209 => (spec_TableOk.l0 k t209 0 a0_0 a0_1 l0_2 l1_0)) else (some false))) = some r := h
 clear h
 replace H := Option.bind_eq_some_iff.mp H
 obtain ⟨t208, A30, H⟩ := H
 try dsimp only at H
 have A3 := qad.mk A30
 clear A30
 by_cases c4 : t208 = true
 ·subst c4
  have H1 := H
  rw [if_pos rfl] at H1
  clear H
  have H := H1
  clear H1
  replace H := Option.bind_eq_some_iff.mp H
  obtain ⟨t209, A50, H⟩ := H
  try dsimp only at H
  have A5 := qad.mk A50
  clear A50
  have H' := qad.mk H
  clear H
  go_enter Try.func73, Try.ntmps73
  go_wp2_with (first | ((with_reducible refine qar (N := 2) rfl ?_); (try (refine qbd (by rfl) ?_; dsimp only)); refine qaq ?hg (N := 2) ?hd (cs := #[.int .i64 a0_0, .int .i64 a0_1, .slice A0_2 l0_2.length c0_2]) (t := 34) ?hr ?_; (case hd => rfl); (case hg => rfl); (case hr => first | (go_simp; done) | (go_simp; rfl)); intro gb206 hg w6 hbox hb; have n0_ := qad.mk (qak (by repeat (first | (with_reducible first | exact HB.out | apply qac | apply qaa | apply qab) | exact HB.out)) hb); have n1_ := qad.mk (hbox); have n2_ := qad.mk ((by rw [hg]; exact (qal (by repeat (first | (with_reducible first | exact HB.out | apply qac | apply qaa | apply qab) | exact HB.out))) : w.heap.size ≤ gb206)); have n3_ := qad.mk ((by rw [hg]; exact (qal (by repeat (first | (with_reducible first | exact HB.out | apply qac | apply qaa | apply qab) | exact HB.out))) : w.heap.size ≤ gb206)); clear HB; have HB := n0_; have BK206 := n1_; have GW206 := n2_; have GE206 := n3_; clear n0_ n1_ n2_ n3_; clear hb hbox hg) | ((with_reducible refine qar (N := 3) rfl ?_); (try (refine qbd (by rfl) ?_; dsimp only)); refine qaq ?hg (N := 3) ?hd (cs := #[.slice A1_0 l1_0.length c1_0]) (t := 36) ?hr ?_; (case hd => rfl); (case hg => rfl); (case hr => first | (go_simp; done) | (go_simp; rfl)); intro gb207 hg w7 hbox hb; have n0_ := qad.mk (qam (g := gb206) (o := .cells #[.int .i64 a0_0, .int .i64 a0_1, .slice A0_2 l0_2.length c0_2] 34 (0, 0)) (by (with_reducible repeat (first | refine qai ?_ _ | refine qaj ?_ | refine qah ?_ _)); exact BK206.out) hb); have n1_ := qad.mk (qak (by repeat (first | (with_reducible first | exact HB.out | apply qac | apply qaa | apply qab | refine qae ?_ GE206.out) | exact HB.out)) hb); have n2_ := qad.mk (hbox); have n3_ := qad.mk ((by rw [hg]; exact (qal (by repeat (first | (with_reducible first | exact HB.out | apply qac | apply qaa | apply qab | refine qae ?_ GE206.out) | exact HB.out))) : w.heap.size ≤ gb207)); have n4_ := qad.mk ((by rw [hg]; exact (qal (by repeat (first | (with_reducible first | exact HB.out | apply qac | apply qaa | apply qab | refine qae ?_ GE206.out) | exact HB.out))) : w.heap.size ≤ gb207)); have n5_ := qad.mk ((by rw [hg]; exact Nat.ne_of_lt (qbb (g := gb206) (o := .cells #[.int .i64 a0_0, .int .i64 a0_1, .slice A0_2 l0_2.length c0_2] 34 (0, 0)) (by (with_reducible repeat (first | refine qai ?_ _ | refine qaj ?_ | refine qah ?_ _)); exact BK206.out)) : gb206 ≠ gb207)); have n6_ := qad.mk ((by rw [hg]; exact Nat.ne_of_gt (qbb (g := gb206) (o := .cells #[.int .i64 a0_0, .int .i64 a0_1, .slice A0_2 l0_2.length c0_2] 34 (0, 0)) (by (with_reducible repeat (first | refine qai ?_ _ | refine qaj ?_ | refine qah ?_ _)); exact BK206.out)) : gb207 ≠ gb206)); clear BK206; clear HB; have BK206 := n0_; have HB := n1_; have BK207 := n2_; have GW207 := n3_; have GE207 := n4_; have NB206_207 := n5_; have NB207_206 := n6_; clear n0_ n1_ n2_ n3_ n4_ n5_ n6_; clear hb hbox hg; have hnb8 := NB206_207.out; have hnc8 := NB207_206.out; have hcz9_0 : w7.cell? ⟨gb206, 0, none⟩ = some (.int .i64 a0_0) := (qag BK206.out 0).trans rfl; have hcz9_1 : w7.cell? ⟨gb206, 1, none⟩ = some (.int .i64 a0_1) := (qag BK206.out 1).trans rfl; have hcz9_2 : w7.cell? ⟨gb206, 2, none⟩ = some (.slice A0_2 l0_2.length c0_2) := (qag BK206.out 2).trans rfl; have hfz9_0 := qaf BK206.out 0; have hfz9_1 := qaf BK206.out 1; have hfz9_2 := qaf BK206.out 2; have hcz10_0 : w7.cell? ⟨gb207, 0, none⟩ = some (.slice A1_0 l1_0.length c1_0) := (qag BK207.out 0).trans rfl; have hfz10_0 := qaf BK207.out 0) | ((with_reducible refine qan (f := 124) rfl ?_); refine qay (some 10) rfl rfl Try.func124 (by kernel_rfl) rfl #[.agg #[.int .i64 a0_0, .int .i64 a0_1, .slice A0_2 l0_2.length c0_2], .agg #[.slice A1_0 l1_0.length c1_0]] rfl (by (try simp only [List.map_toArray, List.map_cons, List.map_nil]); first | done | rfl | (simp only [List.length_drop, List.length_take]; rfl)) ?_; (with_reducible refine (spec_l04Sized.calls k a0_0 a0_1 _ _ l0_2 _ _ l1_0 true _ ?side1 ?side2 ?side3 ?side4 A3.out).mono ?_); (case side1 => repeat (first | exact (Kd.qaz HR0_2.out HB.out) | (with_reducible first | refine Kd.qav ?_ _ | refine Kd.qau ?_ _ | refine Kd.qba ?_))); (case side2 => exact HC0_2.out); (case side3 => repeat (first | exact (Kd.qaz HR1_0.out HB.out) | (with_reducible first | refine Kd.qav ?_ _ | refine Kd.qau ?_ _ | refine Kd.qba ?_))); (case side4 => exact HC1_0.out); rintro e w11 ⟨rfl, hb⟩; refine ⟨_, rfl, ?_⟩; have n0_ := qad.mk (qam (g := gb206) (o := .cells #[.int .i64 a0_0, .int .i64 a0_1, .slice A0_2 l0_2.length c0_2] 34 (0, 0)) (by (with_reducible repeat (first | refine qai ?_ _ | refine qaj ?_ | refine qah ?_ _)); exact BK206.out) hb); have n1_ := qad.mk (qam (g := gb207) (o := .cells #[.slice A1_0 l1_0.length c1_0] 36 (0, 0)) (by (with_reducible repeat (first | refine qai ?_ _ | refine qaj ?_ | refine qah ?_ _)); exact BK207.out) hb); have n2_ := qad.mk (qak (by repeat (first | (with_reducible first | exact HB.out | apply qac | apply qaa | apply qab | refine qae ?_ GE206.out | refine qae ?_ GE207.out) | exact HB.out)) hb); clear BK206; clear BK207; clear HB; have BK206 := n0_; have BK207 := n1_; have HB := n2_; clear n0_ n1_ n2_; (try clear hb); (try clear hb2); (try clear hk); (try clear hi); have hcz12_0 : w11.cell? ⟨gb206, 0, none⟩ = some (.int .i64 a0_0) := (qag BK206.out 0).trans rfl; have hcz12_1 : w11.cell? ⟨gb206, 1, none⟩ = some (.int .i64 a0_1) := (qag BK206.out 1).trans rfl; have hcz12_2 : w11.cell? ⟨gb206, 2, none⟩ = some (.slice A0_2 l0_2.length c0_2) := (qag BK206.out 2).trans rfl; have hfz12_0 := qaf BK206.out 0; have hfz12_1 := qaf BK206.out 1; have hfz12_2 := qaf BK206.out 2) | ((with_reducible refine qan (f := 79) rfl ?_); refine qay (some 14) rfl rfl Try.func79 (by kernel_rfl) rfl #[.agg #[.int .i64 a0_0, .int .i64 a0_1]] rfl (by (try simp only [List.map_toArray, List.map_cons, List.map_nil]); first | done | rfl | (simp only [List.length_drop, List.length_take]; rfl)) ?_; (with_reducible refine (spec_NodeCount.calls a0_0 a0_1 t209 _ A5.out).mono ?_); rintro e w13 ⟨rfl, hb⟩; refine ⟨_, rfl, ?_⟩; have n0_ := qad.mk (qam (g := gb206) (o := .cells #[.int .i64 a0_0, .int .i64 a0_1, .slice A0_2 l0_2.length c0_2] 34 (0, 0)) (by (with_reducible repeat (first | refine qai ?_ _ | refine qaj ?_ | refine qah ?_ _)); exact BK206.out) hb); have n1_ := qad.mk (qam (g := gb207) (o := .cells #[.slice A1_0 l1_0.length c1_0] 36 (0, 0)) (by (with_reducible repeat (first | refine qai ?_ _ | refine qaj ?_ | refine qah ?_ _)); exact BK207.out) hb); have n2_ := qad.mk (qak (by repeat (first | (with_reducible first | exact HB.out | apply qac | apply qaa | apply qab | refine qae ?_ GE206.out | refine qae ?_ GE207.out) | exact HB.out)) hb); clear BK206; clear BK207; clear HB; have BK206 := n0_; have BK207 := n1_; have HB := n2_; clear n0_ n1_ n2_; (try clear hb); (try clear hb2); (try clear hk); (try clear hi)))
  go_loopg [6] k (fun kq v6 w' => ∃ (x6_1 : Int), v6 = .int .i64 x6_1 ∧ qad (spec_TableOk.l0 kq t209 x6_1 a0_0 a0_1 l0_2 l1_0 = some r) ∧ qad (kq ≤ k) ∧ qad (w'.heap[gb206]? = some (.cells #[.int .i64 a0_0, .int .i64 a0_1, (.slice A0_2 l0_2.length c0_2)] 34 (0, 0))) ∧ qad (w'.heap[gb207]? = some (.cells #[(.slice A1_0 l1_0.length c1_0)] 36 (0, 0))) ∧ qad (Below w.heap.size w w'))
  case atStart => exact ⟨(0), (by first | rfl | (simp; done) | (simp [*]; done)), H', ⟨Nat.le_refl _⟩, ⟨by (with_reducible repeat (first | refine qai ?_ _ | refine qaj ?_ | refine qah ?_ _)); exact BK206.out⟩, ⟨by (with_reducible repeat (first | refine qai ?_ _ | refine qaj ?_ | refine qah ?_ _)); exact BK207.out⟩, ⟨by repeat (first | (with_reducible first | exact HB.out | apply qac | apply qaa | apply qab | refine qae ?_ GE206.out | refine qae ?_ GE207.out) | exact HB.out)⟩⟩
  case round =>
   clear H'
   try clear c1
   try clear p2
   try clear c4
   try clear c7
   try clear c8
   try clear c12
   try clear hcz10_0
   try clear hcz12_0
   try clear hcz12_1
   try clear hcz12_2
   try clear hcz9_0
   try clear hcz9_1
   try clear hcz9_2
   try clear hfz10_0
   try clear hfz12_0
   try clear hfz12_1
   try clear hfz12_2
   try clear hfz9_0
   try clear hfz9_1
   try clear hfz9_2
   obtain ⟨x6_1, rfl, HA, HK1, BK206, BK207, HB⟩ := hrel
   cases gk with
   | zero => exact absurd HA.out (by simp [spec_TableOk.l0])
   | succ k1 =>
    have H := HA.out
    clear HA
    simp only [spec_TableOk.l0] at H
    by_cases c14 : x6_1 < t209
    ·rw [if_pos c14] at H
     have c14b0 : decide (x6_1 < t209) = true := decide_eq_true c14
     clear c14
     have H' := qad.mk H
     clear H
     go_wp2
     go_loopg [7] k1 (fun kq v7 w' => ∃ (x7_2 : Int), v7 = .int .i64 x7_2 ∧ qad (spec_TableOk.l1 kq t209 x6_1 x7_2 a0_0 a0_1 l0_2 l1_0 = some r) ∧ qad (kq ≤ k1) ∧ qad (w'.heap[gb206]? = some (.cells #[.int .i64 a0_0, .int .i64 a0_1, (.slice A0_2 l0_2.length c0_2)] 34 (0, 0))) ∧ qad (w'.heap[gb207]? = some (.cells #[(.slice A1_0 l1_0.length c1_0)] 36 (0, 0))) ∧ qad (Below w.heap.size w w'))
     case atStart => exact ⟨(0), (by first | rfl | (simp; done) | (simp [*]; done)), H', ⟨Nat.le_refl _⟩, ⟨by (with_reducible repeat (first | refine qai ?_ _ | refine qaj ?_ | refine qah ?_ _)); exact BK206.out⟩, ⟨by (with_reducible repeat (first | refine qai ?_ _ | refine qaj ?_ | refine qah ?_ _)); exact BK207.out⟩, ⟨by repeat (first | (with_reducible first | exact HB.out | apply qac | apply qaa | apply qab | refine qae ?_ GE206.out | refine qae ?_ GE207.out) | exact HB.out)⟩⟩
     case round =>
      clear H'
      try clear c1
      try clear p2
      try clear c4
      try clear c7
      try clear c8
      try clear c12
      try clear c14
      try clear c14b0
      try clear hcz10_0
      try clear hcz12_0
      try clear hcz12_1
      try clear hcz12_2
      try clear hcz9_0
      try clear hcz9_1
      try clear hcz9_2
      try clear hfz10_0
      try clear hfz12_0
      try clear hfz12_1
      try clear hfz12_2
      try clear hfz9_0
      try clear hfz9_1
      try clear hfz9_2
      try clear p2
      obtain ⟨x7_2, rfl, HA, HK2, BK206, BK207, HB⟩ := hrel
      cases gk with
      | zero => exact absurd HA.out (by simp [spec_TableOk.l1])
      | succ k2 =>
       have H := HA.out
       clear HA
       simp only [spec_TableOk.l1] at H
       by_cases c15 : x7_2 < t209
       ·rw [if_pos c15] at H
        have c15b0 : decide (x7_2 < t209) = true := decide_eq_true c15
        clear c15
        by_cases c16 : x6_1 = x7_2
        ·rw [if_pos c16] at H
         have c16b0 : (x6_1 == x7_2) = true := beq_iff_eq.mpr c16
         have c16b1 : (x6_1 != x7_2) = false := bne_eq_false_iff_eq.mpr c16
         clear c16
         obtain ⟨ji17, hji17⟩ : ∃ j_ : Int, (wrap64 ((wrap64 (x6_1 * t209)) + x6_1)) = j_ := ⟨_, rfl⟩
         replace H : (if 0 ≤ (ji17) then (if (ji17) < (l1_0.length : Int) then (if (rd l1_0 (ji17)) = 4 then (spec_TableOk.l1 k2 t209 x6_1 (wrap64 (x7_2 + 1)) a0_0 a0_1 l0_2 l1_0) else (some false)) else (none)) else (none)) = some r := by first | (rw [hji17] at H; exact H) | (simp only [hji17] at H ⊢; exact H)
         have hji17w : (IntKind.i64.wrap ((wrap64 (x6_1 * t209)) + x6_1)) = ji17 := (i64_w _).trans hji17
         by_cases c18 : 0 ≤ (ji17)
         ·rw [if_pos c18] at H
          have c18b0 : decide (0 ≤ (ji17)) = true := decide_eq_true c18
          clear c18
          by_cases c19 : (ji17) < (l1_0.length : Int)
          ·rw [if_pos c19] at H
           have c19b0 : decide ((ji17) < (l1_0.length : Int)) = true := decide_eq_true c19
           clear c19
           by_cases c20 : (rd l1_0 (ji17)) = 4
           ·rw [if_pos c20] at H
            have c20b0 : ((rd l1_0 (ji17)) == 4) = true := beq_iff_eq.mpr c20
            have c20b1 : ((rd l1_0 (ji17)) != 4) = false := bne_eq_false_iff_eq.mpr c20
            clear c20
            have H' := qad.mk H
            clear H
            have hnb21 := NB207_206.out
            have hnc21 := NB206_207.out
            have hcz22_0 : wr.cell? ⟨gb207, 0, none⟩ = some (.slice A1_0 l1_0.length c1_0) := (qag BK207.out 0).trans rfl
            have hfz22_0 := qaf BK207.out 0
            have p210 : 0 ≤ ((ji17) : Int) := of_decide_eq_true (by first | (with_reducible assumption) | assumption)
            have q210 : (ji17) < (l1_0.length : Int) := of_decide_eq_true (by first | (with_reducible assumption) | assumption)
            obtain ⟨ad210, e210, hx210_0⟩ := Kd.qbh HR1_0.out (ji17) p210 q210
            cases e210
            replace hx210_0 := (HB.out.cell (World.block_lt_of_cell? w _ hx210_0)).trans hx210_0
            replace p210 := eq_true p210
            replace q210 := eq_true q210
            go_wp2
            go_roundg k2
            case measure => have := HK1.out; have := HK2.out; omega
            case rel => exact ⟨(wrap64 (x7_2 + 1)), (by first | rfl | (simp; done) | (simp [*]; done)), H', ⟨by have := HK1.out; have := HK2.out; omega⟩, ⟨by (with_reducible repeat (first | refine qai ?_ _ | refine qaj ?_ | refine qah ?_ _)); exact BK206.out⟩, ⟨by (with_reducible repeat (first | refine qai ?_ _ | refine qaj ?_ | refine qah ?_ _)); exact BK207.out⟩, ⟨by repeat (first | (with_reducible first | exact HB.out | apply qac | apply qaa | apply qab | refine qae ?_ GE206.out | refine qae ?_ GE207.out) | exact HB.out)⟩⟩
           ·rw [if_neg c20] at H
            have c20b0 : ((rd l1_0 (ji17)) == 4) = false := beq_eq_false_iff_ne.mpr c20
            have c20b1 : ((rd l1_0 (ji17)) != 4) = true := bne_iff_ne.mpr c20
            obtain rfl := Option.some.inj H
            have hnb23 := NB207_206.out
            have hnc23 := NB206_207.out
            have hcz24_0 : wr.cell? ⟨gb207, 0, none⟩ = some (.slice A1_0 l1_0.length c1_0) := (qag BK207.out 0).trans rfl
            have hfz24_0 := qaf BK207.out 0
            have p210 : 0 ≤ ((ji17) : Int) := of_decide_eq_true (by first | (with_reducible assumption) | assumption)
            have q210 : (ji17) < (l1_0.length : Int) := of_decide_eq_true (by first | (with_reducible assumption) | assumption)
            obtain ⟨ad210, e210, hx210_0⟩ := Kd.qbh HR1_0.out (ji17) p210 q210
            cases e210
            replace hx210_0 := (HB.out.cell (World.block_lt_of_cell? w _ hx210_0)).trans hx210_0
            replace p210 := eq_true p210
            replace q210 := eq_true q210
            go_wp2
            go_ret
            exact ⟨by first | rfl | (simp [errW_none, errW_some] <;> rfl) | (simp only [← hji17]; first | rfl | (simp [errW_none, errW_some] <;> rfl)) | (simp [*, errW_none, errW_some] <;> rfl), by repeat (first | (with_reducible first | exact HB.out | apply qac | apply qaa | apply qab | refine qae ?_ GE206.out | refine qae ?_ GE207.out) | exact HB.out)⟩
          ·rw [if_neg c19] at H
           exact absurd H (by simp)
         ·rw [if_neg c18] at H
          exact absurd H (by simp)
        ·rw [if_neg c16] at H
         have c16b0 : (x6_1 == x7_2) = false := beq_eq_false_iff_ne.mpr c16
         have c16b1 : (x6_1 != x7_2) = true := bne_iff_ne.mpr c16
         replace H := Option.bind_eq_some_iff.mp H
         obtain ⟨t211, A250, H⟩ := H
         try dsimp only at H
         have A25 := qad.mk A250
         clear A250
         by_cases c26 : (t211.length : Int) = 0
         ·rw [if_pos c26] at H
          have c26b0 : ((t211.length : Int) == 0) = true := beq_iff_eq.mpr c26
          have c26b1 : ((t211.length : Int) != 0) = false := bne_eq_false_iff_eq.mpr c26
          clear c26
          obtain rfl := Option.some.inj H
          have hnb27 := NB206_207.out
          have hnc27 := NB207_206.out
          have hcz28_0 : wr.cell? ⟨gb206, 0, none⟩ = some (.int .i64 a0_0) := (qag BK206.out 0).trans rfl
          have hcz28_1 : wr.cell? ⟨gb206, 1, none⟩ = some (.int .i64 a0_1) := (qag BK206.out 1).trans rfl
          have hcz28_2 : wr.cell? ⟨gb206, 2, none⟩ = some (.slice A0_2 l0_2.length c0_2) := (qag BK206.out 2).trans rfl
          have hfz28_0 := qaf BK206.out 0
          have hfz28_1 := qaf BK206.out 1
          have hfz28_2 := qaf BK206.out 2
          have hcz29_0 : wr.cell? ⟨gb207, 0, none⟩ = some (.slice A1_0 l1_0.length c1_0) := (qag BK207.out 0).trans rfl
          have hfz29_0 := qaf BK207.out 0
          go_wp2_with (first | (go_at_call 80; (with_reducible refine (spec_l04Walk.calls k2 a0_0 a0_1 _ _ l0_2 _ _ l1_0 x6_1 x7_2 t211 _ ?side1 ?side2 ?side3 ?side4 A25.out).mono ?_); (case side1 => repeat (first | exact (Kd.qaz HR0_2.out HB.out) | (with_reducible first | refine Kd.qav ?_ _ | refine Kd.qau ?_ _ | refine Kd.qba ?_))); (case side2 => exact HC0_2.out); (case side3 => repeat (first | exact (Kd.qaz HR1_0.out HB.out) | (with_reducible first | refine Kd.qav ?_ _ | refine Kd.qau ?_ _ | refine Kd.qba ?_))); (case side4 => exact HC1_0.out); rintro e w30 ⟨v212, rfl, ho0, hb⟩; have n0_ := qad.mk (Kd.qbi ho0 (qal (by repeat (first | (with_reducible first | exact HB.out | apply qac | apply qaa | apply qab | refine qae ?_ GE206.out | refine qae ?_ GE207.out) | exact HB.out)))); have n1_ := qad.mk (qam (g := gb206) (o := .cells #[.int .i64 a0_0, .int .i64 a0_1, .slice A0_2 l0_2.length c0_2] 34 (0, 0)) (by (with_reducible repeat (first | refine qai ?_ _ | refine qaj ?_ | refine qah ?_ _)); exact BK206.out) hb); have n2_ := qad.mk (qam (g := gb207) (o := .cells #[.slice A1_0 l1_0.length c1_0] 36 (0, 0)) (by (with_reducible repeat (first | refine qai ?_ _ | refine qaj ?_ | refine qah ?_ _)); exact BK207.out) hb); have n3_ := qad.mk (qak (by repeat (first | (with_reducible first | exact HB.out | apply qac | apply qaa | apply qab | refine qae ?_ GE206.out | refine qae ?_ GE207.out) | exact HB.out)) hb); clear BK206; clear BK207; clear HB; have HO213 := n0_; have BK206 := n1_; have BK207 := n2_; have HB := n3_; clear n0_ n1_ n2_ n3_; (try clear hb); (try clear hb2); (try clear hk); (try clear hi); (try clear ho0); obtain ⟨Ao31, co31, eo31⟩ := Kd.qbg HO213.out; subst eo31))
          go_ret
          exact ⟨by first | rfl | (simp [errW_none, errW_some] <;> rfl) | (simp [*, errW_none, errW_some] <;> rfl), by repeat (first | (with_reducible first | exact HB.out | apply qac | apply qaa | apply qab | refine qae ?_ GE206.out | refine qae ?_ GE207.out) | exact HB.out)⟩
         ·rw [if_neg c26] at H
          have c26b0 : ((t211.length : Int) == 0) = false := beq_eq_false_iff_ne.mpr c26
          have c26b1 : ((t211.length : Int) != 0) = true := bne_iff_ne.mpr c26
          have c26b2 : ¬ (t211 = []) := fun h_ => c26 (by rw [h_]; rfl)
          have H' := qad.mk H
          clear H
          have hnb32 := NB206_207.out
          have hnc32 := NB207_206.out
          have hcz33_0 : wr.cell? ⟨gb206, 0, none⟩ = some (.int .i64 a0_0) := (qag BK206.out 0).trans rfl
          have hcz33_1 : wr.cell? ⟨gb206, 1, none⟩ = some (.int .i64 a0_1) := (qag BK206.out 1).trans rfl
          have hcz33_2 : wr.cell? ⟨gb206, 2, none⟩ = some (.slice A0_2 l0_2.length c0_2) := (qag BK206.out 2).trans rfl
          have hfz33_0 := qaf BK206.out 0
          have hfz33_1 := qaf BK206.out 1
          have hfz33_2 := qaf BK206.out 2
          have hcz34_0 : wr.cell? ⟨gb207, 0, none⟩ = some (.slice A1_0 l1_0.length c1_0) := (qag BK207.out 0).trans rfl
          have hfz34_0 := qaf BK207.out 0
          go_wp2_with (first | (go_at_call 80; (with_reducible refine (spec_l04Walk.calls k2 a0_0 a0_1 _ _ l0_2 _ _ l1_0 x6_1 x7_2 t211 _ ?side1 ?side2 ?side3 ?side4 A25.out).mono ?_); (case side1 => repeat (first | exact (Kd.qaz HR0_2.out HB.out) | (with_reducible first | refine Kd.qav ?_ _ | refine Kd.qau ?_ _ | refine Kd.qba ?_))); (case side2 => exact HC0_2.out); (case side3 => repeat (first | exact (Kd.qaz HR1_0.out HB.out) | (with_reducible first | refine Kd.qav ?_ _ | refine Kd.qau ?_ _ | refine Kd.qba ?_))); (case side4 => exact HC1_0.out); rintro e w35 ⟨v212, rfl, ho0, hb⟩; have n0_ := qad.mk (Kd.qbi ho0 (qal (by repeat (first | (with_reducible first | exact HB.out | apply qac | apply qaa | apply qab | refine qae ?_ GE206.out | refine qae ?_ GE207.out) | exact HB.out)))); have n1_ := qad.mk (qam (g := gb206) (o := .cells #[.int .i64 a0_0, .int .i64 a0_1, .slice A0_2 l0_2.length c0_2] 34 (0, 0)) (by (with_reducible repeat (first | refine qai ?_ _ | refine qaj ?_ | refine qah ?_ _)); exact BK206.out) hb); have n2_ := qad.mk (qam (g := gb207) (o := .cells #[.slice A1_0 l1_0.length c1_0] 36 (0, 0)) (by (with_reducible repeat (first | refine qai ?_ _ | refine qaj ?_ | refine qah ?_ _)); exact BK207.out) hb); have n3_ := qad.mk (qak (by repeat (first | (with_reducible first | exact HB.out | apply qac | apply qaa | apply qab | refine qae ?_ GE206.out | refine qae ?_ GE207.out) | exact HB.out)) hb); clear BK206; clear BK207; clear HB; have HO213 := n0_; have BK206 := n1_; have BK207 := n2_; have HB := n3_; clear n0_ n1_ n2_ n3_; (try clear hb); (try clear hb2); (try clear hk); (try clear hi); (try clear ho0); obtain ⟨Ao36, co36, eo36⟩ := Kd.qbg HO213.out; subst eo36))
          go_roundg k2
          case measure => have := HK1.out; have := HK2.out; omega
          case rel => exact ⟨(wrap64 (x7_2 + 1)), (by first | rfl | (simp; done) | (simp [*]; done)), H', ⟨by have := HK1.out; have := HK2.out; omega⟩, ⟨by (with_reducible repeat (first | refine qai ?_ _ | refine qaj ?_ | refine qah ?_ _)); exact BK206.out⟩, ⟨by (with_reducible repeat (first | refine qai ?_ _ | refine qaj ?_ | refine qah ?_ _)); exact BK207.out⟩, ⟨by repeat (first | (with_reducible first | exact HB.out | apply qac | apply qaa | apply qab | refine qae ?_ GE206.out | refine qae ?_ GE207.out) | exact HB.out)⟩⟩
       ·rw [if_neg c15] at H
        have c15b0 : decide (x7_2 < t209) = false := decide_eq_false c15
        clear c15
        have H' := qad.mk H
        clear H
        go_wp2
        go_roundg k2
        case measure => have := HK1.out; have := HK2.out; omega
        case rel => exact ⟨(wrap64 (x6_1 + 1)), (by first | rfl | (simp; done) | (simp [*]; done)), H', ⟨by have := HK1.out; have := HK2.out; omega⟩, ⟨by (with_reducible repeat (first | refine qai ?_ _ | refine qaj ?_ | refine qah ?_ _)); exact BK206.out⟩, ⟨by (with_reducible repeat (first | refine qai ?_ _ | refine qaj ?_ | refine qah ?_ _)); exact BK207.out⟩, ⟨by repeat (first | (with_reducible first | exact HB.out | apply qac | apply qaa | apply qab | refine qae ?_ GE206.out | refine qae ?_ GE207.out) | exact HB.out)⟩⟩
    ·rw [if_neg c14] at H
     have c14b0 : decide (x6_1 < t209) = false := decide_eq_false c14
     clear c14
     obtain rfl := Option.some.inj H
     go_wp2
     go_ret
     exact ⟨by first | rfl | (simp [errW_none, errW_some] <;> rfl) | (simp [*, errW_none, errW_some] <;> rfl), by repeat (first | (with_reducible first | exact HB.out | apply qac | apply qaa | apply qab | refine qae ?_ GE206.out | refine qae ?_ GE207.out) | exact HB.out)⟩
 ·replace c4 := Bool.eq_false_iff.mpr c4
  subst c4
  have H1 := H
  rw [if_neg (show ¬ (false = true) by decide)] at H1
  clear H
  have H := H1
  clear H1
  obtain rfl := Option.some.inj H
  go_enter Try.func73, Try.ntmps73
  go_wp2_with (first | ((with_reducible refine qar (N := 2) rfl ?_); (try (refine qbd (by rfl) ?_; dsimp only)); refine qaq ?hg (N := 2) ?hd (cs := #[.int .i64 a0_0, .int .i64 a0_1, .slice A0_2 l0_2.length c0_2]) (t := 34) ?hr ?_; (case hd => rfl); (case hg => rfl); (case hr => first | (go_simp; done) | (go_simp; rfl)); intro gb206 hg w37 hbox hb; have n0_ := qad.mk (qak (by repeat (first | (with_reducible first | exact HB.out | apply qac | apply qaa | apply qab) | exact HB.out)) hb); have n1_ := qad.mk (hbox); have n2_ := qad.mk ((by rw [hg]; exact (qal (by repeat (first | (with_reducible first | exact HB.out | apply qac | apply qaa | apply qab) | exact HB.out))) : w.heap.size ≤ gb206)); have n3_ := qad.mk ((by rw [hg]; exact (qal (by repeat (first | (with_reducible first | exact HB.out | apply qac | apply qaa | apply qab) | exact HB.out))) : w.heap.size ≤ gb206)); clear HB; have HB := n0_; have BK206 := n1_; have GW206 := n2_; have GE206 := n3_; clear n0_ n1_ n2_ n3_; clear hb hbox hg) | ((with_reducible refine qar (N := 3) rfl ?_); (try (refine qbd (by rfl) ?_; dsimp only)); refine qaq ?hg (N := 3) ?hd (cs := #[.slice A1_0 l1_0.length c1_0]) (t := 36) ?hr ?_; (case hd => rfl); (case hg => rfl); (case hr => first | (go_simp; done) | (go_simp; rfl)); intro gb207 hg w38 hbox hb; have n0_ := qad.mk (qam (g := gb206) (o := .cells #[.int .i64 a0_0, .int .i64 a0_1, .slice A0_2 l0_2.length c0_2] 34 (0, 0)) (by (with_reducible repeat (first | refine qai ?_ _ | refine qaj ?_ | refine qah ?_ _)); exact BK206.out) hb); have n1_ := qad.mk (qak (by repeat (first | (with_reducible first | exact HB.out | apply qac | apply qaa | apply qab | refine qae ?_ GE206.out) | exact HB.out)) hb); have n2_ := qad.mk (hbox); have n3_ := qad.mk ((by rw [hg]; exact (qal (by repeat (first | (with_reducible first | exact HB.out | apply qac | apply qaa | apply qab | refine qae ?_ GE206.out) | exact HB.out))) : w.heap.size ≤ gb207)); have n4_ := qad.mk ((by rw [hg]; exact (qal (by repeat (first | (with_reducible first | exact HB.out | apply qac | apply qaa | apply qab | refine qae ?_ GE206.out) | exact HB.out))) : w.heap.size ≤ gb207)); have n5_ := qad.mk ((by rw [hg]; exact Nat.ne_of_lt (qbb (g := gb206) (o := .cells #[.int .i64 a0_0, .int .i64 a0_1, .slice A0_2 l0_2.length c0_2] 34 (0, 0)) (by (with_reducible repeat (first | refine qai ?_ _ | refine qaj ?_ | refine qah ?_ _)); exact BK206.out)) : gb206 ≠ gb207)); have n6_ := qad.mk ((by rw [hg]; exact Nat.ne_of_gt (qbb (g := gb206) (o := .cells #[.int .i64 a0_0, .int .i64 a0_1, .slice A0_2 l0_2.length c0_2] 34 (0, 0)) (by (with_reducible repeat (first | refine qai ?_ _ | refine qaj ?_ | refine qah ?_ _)); exact BK206.out)) : gb207 ≠ gb206)); clear BK206; clear HB; have BK206 := n0_; have HB := n1_; have BK207 := n2_; have GW207 := n3_; have GE207 := n4_; have NB206_207 := n5_; have NB207_206 := n6_; clear n0_ n1_ n2_ n3_ n4_ n5_ n6_; clear hb hbox hg; have hnb39 := NB206_207.out; have hnc39 := NB207_206.out; have hcz40_0 : w38.cell? ⟨gb206, 0, none⟩ = some (.int .i64 a0_0) := (qag BK206.out 0).trans rfl; have hcz40_1 : w38.cell? ⟨gb206, 1, none⟩ = some (.int .i64 a0_1) := (qag BK206.out 1).trans rfl; have hcz40_2 : w38.cell? ⟨gb206, 2, none⟩ = some (.slice A0_2 l0_2.length c0_2) := (qag BK206.out 2).trans rfl; have hfz40_0 := qaf BK206.out 0; have hfz40_1 := qaf BK206.out 1; have hfz40_2 := qaf BK206.out 2; have hcz41_0 : w38.cell? ⟨gb207, 0, none⟩ = some (.slice A1_0 l1_0.length c1_0) := (qag BK207.out 0).trans rfl; have hfz41_0 := qaf BK207.out 0) | ((with_reducible refine qan (f := 124) rfl ?_); refine qay (some 10) rfl rfl Try.func124 (by kernel_rfl) rfl #[.agg #[.int .i64 a0_0, .int .i64 a0_1, .slice A0_2 l0_2.length c0_2], .agg #[.slice A1_0 l1_0.length c1_0]] rfl (by (try simp only [List.map_toArray, List.map_cons, List.map_nil]); first | done | rfl | (simp only [List.length_drop, List.length_take]; rfl)) ?_; (with_reducible refine (spec_l04Sized.calls k a0_0 a0_1 _ _ l0_2 _ _ l1_0 false _ ?side1 ?side2 ?side3 ?side4 A3.out).mono ?_); (case side1 => repeat (first | exact (Kd.qaz HR0_2.out HB.out) | (with_reducible first | refine Kd.qav ?_ _ | refine Kd.qau ?_ _ | refine Kd.qba ?_))); (case side2 => exact HC0_2.out); (case side3 => repeat (first | exact (Kd.qaz HR1_0.out HB.out) | (with_reducible first | refine Kd.qav ?_ _ | refine Kd.qau ?_ _ | refine Kd.qba ?_))); (case side4 => exact HC1_0.out); rintro e w42 ⟨rfl, hb⟩; refine ⟨_, rfl, ?_⟩; have n0_ := qad.mk (qam (g := gb206) (o := .cells #[.int .i64 a0_0, .int .i64 a0_1, .slice A0_2 l0_2.length c0_2] 34 (0, 0)) (by (with_reducible repeat (first | refine qai ?_ _ | refine qaj ?_ | refine qah ?_ _)); exact BK206.out) hb); have n1_ := qad.mk (qam (g := gb207) (o := .cells #[.slice A1_0 l1_0.length c1_0] 36 (0, 0)) (by (with_reducible repeat (first | refine qai ?_ _ | refine qaj ?_ | refine qah ?_ _)); exact BK207.out) hb); have n2_ := qad.mk (qak (by repeat (first | (with_reducible first | exact HB.out | apply qac | apply qaa | apply qab | refine qae ?_ GE206.out | refine qae ?_ GE207.out) | exact HB.out)) hb); clear BK206; clear BK207; clear HB; have BK206 := n0_; have BK207 := n1_; have HB := n2_; clear n0_ n1_ n2_; (try clear hb); (try clear hb2); (try clear hk); (try clear hi)))
  go_ret
  exact ⟨by first | rfl | (simp [errW_none, errW_some] <;> rfl) | (simp [*, errW_none, errW_some] <;> rfl), by repeat (first | (with_reducible first | exact HB.out | apply qac | apply qaa | apply qab | refine qae ?_ GE206.out | refine qae ?_ GE207.out) | exact HB.out)⟩


/-! ### spec_l08Less: function 134 -/
def spec_l08Less.f (a0_0 : Int) (a0_1 : Int) (a1_0 : Int) (a1_1 : Int) : Option (Bool) := if a0_0 < a1_0 then (some true) else (if a0_0 = a1_0 then (some (decide (a0_1 < a1_1))) else (some false))
set_option maxHeartbeats 8000000 in
set_option maxRecDepth 100000 in
theorem spec_l08Less.calls (a0_0 : Int) (a0_1 : Int) (a1_0 : Int) (a1_1 : Int) (r : Bool) (w : World) (h : spec_l08Less.f a0_0 a0_1 a1_0 a1_1 = some r) :
  Calls Try.prog 134 #[.agg #[.int .i64 a0_0, .int .i64 a0_1], .agg #[.int .i64 a1_0, .int .i64 a1_1]] w fun e w' => e = .returned (.bool r) ∧ Below w.heap.size w w' := by
 have hu83 := Try.underlying83
 have HB := qad.mk (Below.refl w.heap.size w)
 have H : (if a0_0 < a1_0 then (some true) else (if a0_0 = a1_0 then (some (decide (a0_1 < a1_1))) else (some false))) = some r := h
 clear h
 by_cases c3 : a0_0 < a1_0
 ·rw [if_pos c3] at H
  have c3b0 : decide (a0_0 < a1_0) = true := decide_eq_true c3
  clear c3
  obtain rfl := Option.some.inj H
  go_enter Try.func134, Try.ntmps134
  go_wp2_with (first | ((with_reducible refine qar (N := 2) rfl ?_); refine qaq ?hg (N := 2) ?hd (cs := #[.int .i64 a0_0, .int .i64 a0_1]) (t := 83) ?hr ?_; (case hd => rfl); (case hg => rfl); (case hr => first | (go_simp; done) | (go_simp; rfl)); intro gb214 hg w4 hbox hb; have n0_ := qad.mk (qak (by repeat (first | (with_reducible first | exact HB.out | apply qac | apply qaa | apply qab) | exact HB.out)) hb); have n1_ := qad.mk (hbox); have n2_ := qad.mk ((by rw [hg]; exact (qal (by repeat (first | (with_reducible first | exact HB.out | apply qac | apply qaa | apply qab) | exact HB.out))) : w.heap.size ≤ gb214)); have n3_ := qad.mk ((by rw [hg]; exact (qal (by repeat (first | (with_reducible first | exact HB.out | apply qac | apply qaa | apply qab) | exact HB.out))) : w.heap.size ≤ gb214)); clear HB; have HB := n0_; have BK214 := n1_; have GW214 := n2_; have GE214 := n3_; clear n0_ n1_ n2_ n3_; clear hb hbox hg) | ((with_reducible refine qar (N := 3) rfl ?_); refine qaq ?hg (N := 3) ?hd (cs := #[.int .i64 a1_0, .int .i64 a1_1]) (t := 83) ?hr ?_; (case hd => rfl); (case hg => rfl); (case hr => first | (go_simp; done) | (go_simp; rfl)); intro gb215 hg w5 hbox hb; have n0_ := qad.mk (qam (g := gb214) (o := .cells #[.int .i64 a0_0, .int .i64 a0_1] 83 (0, 0)) (by (with_reducible repeat (first | refine qai ?_ _ | refine qaj ?_ | refine qah ?_ _)); exact BK214.out) hb); have n1_ := qad.mk (qak (by repeat (first | (with_reducible first | exact HB.out | apply qac | apply qaa | apply qab | refine qae ?_ GE214.out) | exact HB.out)) hb); have n2_ := qad.mk (hbox); have n3_ := qad.mk ((by rw [hg]; exact (qal (by repeat (first | (with_reducible first | exact HB.out | apply qac | apply qaa | apply qab | refine qae ?_ GE214.out) | exact HB.out))) : w.heap.size ≤ gb215)); have n4_ := qad.mk ((by rw [hg]; exact (qal (by repeat (first | (with_reducible first | exact HB.out | apply qac | apply qaa | apply qab | refine qae ?_ GE214.out) | exact HB.out))) : w.heap.size ≤ gb215)); have n5_ := qad.mk ((by rw [hg]; exact Nat.ne_of_lt (qbb (g := gb214) (o := .cells #[.int .i64 a0_0, .int .i64 a0_1] 83 (0, 0)) (by (with_reducible repeat (first | refine qai ?_ _ | refine qaj ?_ | refine qah ?_ _)); exact BK214.out)) : gb214 ≠ gb215)); have n6_ := qad.mk ((by rw [hg]; exact Nat.ne_of_gt (qbb (g := gb214) (o := .cells #[.int .i64 a0_0, .int .i64 a0_1] 83 (0, 0)) (by (with_reducible repeat (first | refine qai ?_ _ | refine qaj ?_ | refine qah ?_ _)); exact BK214.out)) : gb215 ≠ gb214)); clear BK214; clear HB; have BK214 := n0_; have HB := n1_; have BK215 := n2_; have GW215 := n3_; have GE215 := n4_; have NB214_215 := n5_; have NB215_214 := n6_; clear n0_ n1_ n2_ n3_ n4_ n5_ n6_; clear hb hbox hg; have hnb6 := NB214_215.out; have hnc6 := NB215_214.out; have hcz7_0 : w5.cell? ⟨gb214, 0, none⟩ = some (.int .i64 a0_0) := (qag BK214.out 0).trans rfl; have hcz7_1 : w5.cell? ⟨gb214, 1, none⟩ = some (.int .i64 a0_1) := (qag BK214.out 1).trans rfl; have hfz7_0 := qaf BK214.out 0; have hfz7_1 := qaf BK214.out 1; have hcz8_0 : w5.cell? ⟨gb215, 0, none⟩ = some (.int .i64 a1_0) := (qag BK215.out 0).trans rfl; have hcz8_1 : w5.cell? ⟨gb215, 1, none⟩ = some (.int .i64 a1_1) := (qag BK215.out 1).trans rfl; have hfz8_0 := qaf BK215.out 0; have hfz8_1 := qaf BK215.out 1))
  go_ret
  exact ⟨by first | rfl | (simp [errW_none, errW_some] <;> rfl) | (simp [*, errW_none, errW_some] <;> rfl), by repeat (first | (with_reducible first | exact HB.out | apply qac | apply qaa | apply qab | refine qae ?_ GE214.out | refine qae ?_ GE215.out) | exact HB.out)⟩
 ·rw [if_neg c3] at H
  have c3b0 : decide (a0_0 < a1_0) = false := decide_eq_false c3
  clear c3
  by_cases c9 : a0_0 = a1_0
  ·rw [if_pos c9] at H
   have c9b0 : (a0_0 == a1_0) = true := beq_iff_eq.mpr c9
   have c9b1 : (a0_0 != a1_0) = false := bne_eq_false_iff_eq.mpr c9
   clear c9
   obtain rfl := Option.some.inj H
   go_enter Try.func134, Try.ntmps134
   go_wp2_with (first | ((with_reducible refine qar (N := 2) rfl ?_); refine qaq ?hg (N := 2) ?hd (cs := #[.int .i64 a0_0, .int .i64 a0_1]) (t := 83) ?hr ?_; (case hd => rfl); (case hg => rfl); (case hr => first | (go_simp; done) | (go_simp; rfl)); intro gb214 hg w10 hbox hb; have n0_ := qad.mk (qak (by repeat (first | (with_reducible first | exact HB.out | apply qac | apply qaa | apply qab) | exact HB.out)) hb); have n1_ := qad.mk (hbox); have n2_ := qad.mk ((by rw [hg]; exact (qal (by repeat (first | (with_reducible first | exact HB.out | apply qac | apply qaa | apply qab) | exact HB.out))) : w.heap.size ≤ gb214)); have n3_ := qad.mk ((by rw [hg]; exact (qal (by repeat (first | (with_reducible first | exact HB.out | apply qac | apply qaa | apply qab) | exact HB.out))) : w.heap.size ≤ gb214)); clear HB; have HB := n0_; have BK214 := n1_; have GW214 := n2_; have GE214 := n3_; clear n0_ n1_ n2_ n3_; clear hb hbox hg) | ((with_reducible refine qar (N := 3) rfl ?_); refine qaq ?hg (N := 3) ?hd (cs := #[.int .i64 a1_0, .int .i64 a1_1]) (t := 83) ?hr ?_; (case hd => rfl); (case hg => rfl); (case hr => first | (go_simp; done) | (go_simp; rfl)); intro gb215 hg w11 hbox hb; have n0_ := qad.mk (qam (g := gb214) (o := .cells #[.int .i64 a0_0, .int .i64 a0_1] 83 (0, 0)) (by (with_reducible repeat (first | refine qai ?_ _ | refine qaj ?_ | refine qah ?_ _)); exact BK214.out) hb); have n1_ := qad.mk (qak (by repeat (first | (with_reducible first | exact HB.out | apply qac | apply qaa | apply qab | refine qae ?_ GE214.out) | exact HB.out)) hb); have n2_ := qad.mk (hbox); have n3_ := qad.mk ((by rw [hg]; exact (qal (by repeat (first | (with_reducible first | exact HB.out | apply qac | apply qaa | apply qab | refine qae ?_ GE214.out) | exact HB.out))) : w.heap.size ≤ gb215)); have n4_ := qad.mk ((by rw [hg]; exact (qal (by repeat (first | (with_reducible first | exact HB.out | apply qac | apply qaa | apply qab | refine qae ?_ GE214.out) | exact HB.out))) : w.heap.size ≤ gb215)); have n5_ := qad.mk ((by rw [hg]; exact Nat.ne_of_lt (qbb (g := gb214) (o := .cells #[.int .i64 a0_0, .int .i64 a0_1] 83 (0, 0)) (by (with_reducible repeat (first | refine qai ?_ _ | refine qaj ?_ | refine qah ?_ _)); exact BK214.out)) : gb214 ≠ gb215)); have n6_ := qad.mk ((by rw [hg]; exact Nat.ne_of_gt (qbb (g := gb214) (o := .cells #[.int .i64 a0_0, .int .i64 a0_1] 83 (0, 0)) (by (with_reducible repeat (first | refine qai ?_ _ | refine qaj ?_ | refine qah ?_ _)); exact BK214.out)) : gb215 ≠ gb214)); clear BK214; clear HB; have BK214 := n0_; have HB := n1_; have BK215 := n2_; have GW215 := n3_; have GE215 := n4_; have NB214_215 := n5_; have NB215_214 := n6_; clear n0_ n1_ n2_ n3_ n4_ n5_ n6_; clear hb hbox hg; have hnb12 := NB214_215.out; have hnc12 := NB215_214.out; have hcz13_0 : w11.cell? ⟨gb214, 0, none⟩ = some (.int .i64 a0_0) := (qag BK214.out 0).trans rfl; have hcz13_1 : w11.cell? ⟨gb214, 1, none⟩ = some (.int .i64 a0_1) := (qag BK214.out 1).trans rfl; have hfz13_0 := qaf BK214.out 0; have hfz13_1 := qaf BK214.out 1; have hcz14_0 : w11.cell? ⟨gb215, 0, none⟩ = some (.int .i64 a1_0) := (qag BK215.out 0).trans rfl; have hcz14_1 : w11.cell? ⟨gb215, 1, none⟩ = some (.int .i64 a1_1) := (qag BK215.out 1).trans rfl; have hfz14_0 := qaf BK215.out 0; have hfz14_1 := qaf BK215.out 1))
   go_ret
   exact ⟨by first | rfl | (simp [errW_none, errW_some] <;> rfl) | (simp [*, errW_none, errW_some] <;> rfl), by repeat (first | (with_reducible first | exact HB.out | apply qac | apply qaa | apply qab | refine qae ?_ GE214.out | refine qae ?_ GE215.out) | exact HB.out)⟩
  ·rw [if_neg c9] at H
   have c9b0 : (a0_0 == a1_0) = false := beq_eq_false_iff_ne.mpr c9
   have c9b1 : (a0_0 != a1_0) = true := bne_iff_ne.mpr c9
   obtain rfl := Option.some.inj H
   go_enter Try.func134, Try.ntmps134
   go_wp2_with (first | ((with_reducible refine qar (N := 2) rfl ?_); refine qaq ?hg (N := 2) ?hd (cs := #[.int .i64 a0_0, .int .i64 a0_1]) (t := 83) ?hr ?_; (case hd => rfl); (case hg => rfl); (case hr => first | (go_simp; done) | (go_simp; rfl)); intro gb214 hg w15 hbox hb; have n0_ := qad.mk (qak (by repeat (first | (with_reducible first | exact HB.out | apply qac | apply qaa | apply qab) | exact HB.out)) hb); have n1_ := qad.mk (hbox); have n2_ := qad.mk ((by rw [hg]; exact (qal (by repeat (first | (with_reducible first | exact HB.out | apply qac | apply qaa | apply qab) | exact HB.out))) : w.heap.size ≤ gb214)); have n3_ := qad.mk ((by rw [hg]; exact (qal (by repeat (first | (with_reducible first | exact HB.out | apply qac | apply qaa | apply qab) | exact HB.out))) : w.heap.size ≤ gb214)); clear HB; have HB := n0_; have BK214 := n1_; have GW214 := n2_; have GE214 := n3_; clear n0_ n1_ n2_ n3_; clear hb hbox hg) | ((with_reducible refine qar (N := 3) rfl ?_); refine qaq ?hg (N := 3) ?hd (cs := #[.int .i64 a1_0, .int .i64 a1_1]) (t := 83) ?hr ?_; (case hd => rfl); (case hg => rfl); (case hr => first | (go_simp; done) | (go_simp; rfl)); intro gb215 hg w16 hbox hb; have n0_ := qad.mk (qam (g := gb214) (o := .cells #[.int .i64 a0_0, .int .i64 a0_1] 83 (0, 0)) (by (with_reducible repeat (first | refine qai ?_ _ | refine qaj ?_ | refine qah ?_ _)); exact BK214.out) hb); have n1_ := qad.mk (qak (by repeat (first | (with_reducible first | exact HB.out | apply qac | apply qaa | apply qab | refine qae ?_ GE214.out) | exact HB.out)) hb); have n2_ := qad.mk (hbox); have n3_ := qad.mk ((by rw [hg]; exact (qal (by repeat (first | (with_reducible first | exact HB.out | apply qac | apply qaa | apply qab | refine qae ?_ GE214.out) | exact HB.out))) : w.heap.size ≤ gb215)); have n4_ := qad.mk ((by rw [hg]; exact (qal (by repeat (first | (with_reducible first | exact HB.out | apply qac | apply qaa | apply qab | refine qae ?_ GE214.out) | exact HB.out))) : w.heap.size ≤ gb215)); have n5_ := qad.mk ((by rw [hg]; exact Nat.ne_of_lt (qbb (g := gb214) (o := .cells #[.int .i64 a0_0, .int .i64 a0_1] 83 (0, 0)) (by (with_reducible repeat (first | refine qai ?_ _ | refine qaj ?_ | refine qah ?_ _)); exact BK214.out)) : gb214 ≠ gb215)); have n6_ := qad.mk ((by rw [hg]; exact Nat.ne_of_gt (qbb (g := gb214) (o := .cells #[.int .i64 a0_0, .int .i64 a0_1] 83 (0, 0)) (by (with_reducible repeat (first | refine qai ?_ _ | refine qaj ?_ | refine qah ?_ _)); exact BK214.out)) : gb215 ≠ gb214)); clear BK214; clear HB; have BK214 := n0_; have HB := n1_; have BK215 := n2_; have GW215 := n3_; have GE215 := n4_; have NB214_215 := n5_; have NB215_214 := n6_; clear n0_ n1_ n2_ n3_ n4_ n5_ n6_; clear hb hbox hg; have hnb17 := NB214_215.out; have hnc17 := NB215_214.out; have hcz18_0 : w16.cell? ⟨gb214, 0, none⟩ = some (.int .i64 a0_0) := (qag BK214.out 0).trans rfl; have hcz18_1 : w16.cell? ⟨gb214, 1, none⟩ = some (.int .i64 a0_1) := (qag BK214.out 1).trans rfl; have hfz18_0 := qaf BK214.out 0; have hfz18_1 := qaf BK214.out 1; have hcz19_0 : w16.cell? ⟨gb215, 0, none⟩ = some (.int .i64 a1_0) := (qag BK215.out 0).trans rfl; have hcz19_1 : w16.cell? ⟨gb215, 1, none⟩ = some (.int .i64 a1_1) := (qag BK215.out 1).trans rfl; have hfz19_0 := qaf BK215.out 0; have hfz19_1 := qaf BK215.out 1))
   go_ret
   exact ⟨by first | rfl | (simp [errW_none, errW_some] <;> rfl) | (simp [*, errW_none, errW_some] <;> rfl), by repeat (first | (with_reducible first | exact HB.out | apply qac | apply qaa | apply qab | refine qae ?_ GE214.out | refine qae ?_ GE215.out) | exact HB.out)⟩


/-! ### spec_l08Put: function 86 -/
def spec_l08Put.l0 : Nat → List (S83) → Int → Int → Int → Option ((List (S83)))
 | 0, _, _, _, _ => none
 | k + 1, x0, x5, x217000, x217001 => if x5 > 0 then (if 0 ≤ (wrap64 (x5 - 1)) then (if (wrap64 (x5 - 1)) < (x0.length : Int) then ((spec_l08Less.f x217000 x217001 ((rd_T83 x0 (wrap64 (x5 - 1))).f0) ((rd_T83 x0 (wrap64 (x5 - 1))).f1)).bind fun t218 => (if t218 = true then (spec_l08Put.l0 k x0 (wrap64 (x5 - 1)) x217000 x217001) else (if (((rd_T83 x0 (wrap64 (x5 - 1))).f0) == x217000 && (((rd_T83 x0 (wrap64 (x5 - 1))).f1) == x217001)) = true then (some x0) else ((some (([] : List (S83)) : List (S83))).bind fun y220 => (if 0 ≤ x5 then (if x5 ≤ (x0.length : Int) then ((some (x0.take (x5 : Int).toNat : List (S83))).bind fun y223 => (if y220.length + y223.length < 8796093022208 then ((some (y220 ++ y223 : List (S83))).bind fun y227 => (if y227.length < 8796093022208 then ((some (y227 ++ [(⟨x217000, x217001⟩ : S83)] : List (S83))).bind fun y230 => ((some (x0.drop (x5 : Int).toNat : List (S83))).bind fun y233 => (if y230.length + y233.length < 8796093022208 then (some (y230 ++ y233)) else (none)))) else (none))) else (none))) else (none)) else (none)))))) else (none)) else (none)) else ((some (([] : List (S83)) : List (S83))).bind fun y240 => (if 0 ≤ x5 then (if x5 ≤ (x0.length : Int) then ((some (x0.take (x5 : Int).toNat : List (S83))).bind fun y243 => (if y240.length + y243.length < 8796093022208 then ((some (y240 ++ y243 : List (S83))).bind fun y247 => (if y247.length < 8796093022208 then ((some (y247 ++ [(⟨x217000, x217001⟩ : S83)] : List (S83))).bind fun y250 => ((some (x0.drop (x5 : Int).toNat : List (S83))).bind fun y253 => (if y250.length + y253.length < 8796093022208 then (some (y250 ++ y253)) else (none)))) else (none))) else (none))) else (none)) else (none)))
def spec_l08Put.f (k : Nat) (l0 : List (S83)) (a1_0 : Int) (a1_1 : Int) : Option ((List (S83))) := spec_l08Put.l0 k l0 (l0.length : Int) a1_0 a1_1
theorem spec_l08Put.mono_l : ∀ k, (∀ y0 y1 y2 y3, LeO (spec_l08Put.l0 k y0 y1 y2 y3) (spec_l08Put.l0 (k + 1) y0 y1 y2 y3))
 | 0 => fun _ _ _ _ r h => by simp [spec_l08Put.l0] at h
 | k + 1 => by
  have ih0 := spec_l08Put.mono_l k
  ·intro y0 y1 y2 y3
   unfold spec_l08Put.l0
   repeat' first
   | (with_reducible exact ih0 _ _ _ _)
   | (with_reducible exact LeO.refl _)
   | (with_reducible exact LeO.none _)
   | (with_reducible refine LeO.ite ?_ ?_)
   | (with_reducible refine LeO.bind ?_ (fun _ => ?_))
   | exact ih0 _ _ _ _
   | exact LeO.none _
   | refine LeO.ite ?_ ?_
   | refine LeO.bind ?_ (fun _ => ?_)
theorem spec_l08Put.mono : ∀ a0 a1 a2 k, LeO (spec_l08Put.f k a0 a1 a2) (spec_l08Put.f (k + 1) a0 a1 a2) := by
 intro a0 a1 a2 k
 have ih0 := spec_l08Put.mono_l k
 unfold spec_l08Put.f
 repeat' first
   | (with_reducible exact ih0 _ _ _ _)
   | (with_reducible exact LeO.refl _)
   | (with_reducible exact LeO.none _)
   | (with_reducible refine LeO.ite ?_ ?_)
   | (with_reducible refine LeO.bind ?_ (fun _ => ?_))
   | exact ih0 _ _ _ _
   | exact LeO.none _
   | refine LeO.ite ?_ ?_
   | refine LeO.bind ?_ (fun _ => ?_)
def spec_l08Put.T2 : Bool × List (List Nat × List Nat) := (true, [([], []), ([0], [0]), ([1], [1]), ([2], [2]), ([2], [2]), ([2], [2]), ([5, 2], [2, 5]), ([4, 6, 2], [2, 4, 6]), ([7, 2], [2, 7]), ([3, 8, 2, 2], [2, 3, 8]), ([2, 9], [2, 9])])
def spec_l08Put.B2 : List Nat := [0, 1, 3, 7, 7, 7, 39, 119, 247, 511, 1023]
theorem spec_l08Put.tab2 : rtab .any (opsOf Try.f86 2) = spec_l08Put.T2 := by kernel_rfl
theorem spec_l08Put.bits2 : waitsOk spec_l08Put.T2.2 spec_l08Put.B2 = true := by kernel_rfl
def spec_l08Put.T4 : Bool × List (List Nat × List Nat) := (true, [([], []), ([0], [0]), ([1], [1]), ([2], [2]), ([2], [2]), ([4, 2], [2, 4]), ([3, 5, 2], [2, 3, 5]), ([6, 2], [2, 6]), ([2], [2]), ([7, 8, 2], [2, 7, 8]), ([2, 9], [2, 9])])
def spec_l08Put.B4 : List Nat := [0, 1, 3, 7, 7, 23, 63, 127, 7, 511, 1023]
theorem spec_l08Put.tab4 : rtab .any (opsOf Try.f86 4) = spec_l08Put.T4 := by kernel_rfl
theorem spec_l08Put.bits4 : waitsOk spec_l08Put.T4.2 spec_l08Put.B4 = true := by kernel_rfl
set_option maxHeartbeats 8000000 in
set_option maxRecDepth 100000 in
theorem spec_l08Put.calls (k : Nat) (P0_ : Nat → Prop) (u9000_ : Value) (l0 : List (S83)) (a1_0 : Int) (a1_1 : Int) (r : List (S83)) (w0 w : World) (hB : Below w0.heap.size w0 w) (ho0 : Kd.R k83 83 w w0.heap.size P0_ u9000_ l0) (h : spec_l08Put.f k l0 a1_0 a1_1 = some r) :
  Calls Try.prog 86 #[u9000_, .agg #[.int .i64 a1_0, .int .i64 a1_1]] w fun e w' => ∃ v0_ : Value, e = .returned (v0_) ∧ Kd.R k83 83 w' w0.heap.size (fun k_ => (P0_ k_ ∨ w.heap.size ≤ k_)) v0_ r ∧ Below w0.heap.size w0 w' ∧ Kept w w' (fun k_ => P0_ k_) := by
 have hu83 := Try.underlying83
 have HO0 := qad.mk (show Kd.R k83 83 w w0.heap.size (fun k_ => (P0_ k_ ∨ w.heap.size ≤ k_)) u9000_ l0 from Kd.qbe ho0 (fun k_ hk => (.inl hk)))
 have HK := qad.mk (Kept.refl w (fun k_ => P0_ k_))
 have HW0 := qad.mk hB.size
 have HB := qad.mk hB
 clear hB
 have H : (spec_l08Put.l0 k l0 (l0.length : Int) a1_0 a1_1) = some r := h
 clear h
 have H' := qad.mk H
 clear H
 go_enter Try.func86, Try.ntmps86
 go_wp2_with (first | ((with_reducible refine qar (N := 3) rfl ?_); refine qaq ?hg (N := 3) ?hd (cs := #[.int .i64 a1_0, .int .i64 a1_1]) (t := 83) ?hr ?_; (case hd => rfl); (case hg => rfl); (case hr => first | (go_simp; done) | (go_simp; rfl)); intro gb216 hg w3 hbox hb; have n0_ := qad.mk (Kd.qax (Kd.qdh (by (with_reducible repeat (first | apply Kd.qap | apply Kd.qao | apply Kd.qas)); exact HO0.out) gb216 (Nat.le_of_eq hg.symm)) hb); have n1_ := qad.mk (Kept.below (S := (fun k_ => P0_ k_)) (by repeat (first | (with_reducible first | exact HK.out | apply Kept.alloc | apply Kept.drewN | apply Kept.drew) | exact HK.out)) hb); have n2_ := qad.mk (qak (by repeat (first | (with_reducible first | exact HB.out | apply qac | apply qaa | apply qab) | exact HB.out)) hb); have n3_ := qad.mk (hbox); have n4_ := qad.mk ((by rw [hg]; exact (by first | exact HK.out.1 | exact (show Kept w _ (fun k_ => P0_ k_) from by repeat (first | (with_reducible first | exact HK.out | apply Kept.alloc | apply Kept.drewN | apply Kept.drew) | exact HK.out)).1) : w.heap.size ≤ gb216)); have n5_ := qad.mk ((by rw [hg]; exact (qal (by repeat (first | (with_reducible first | exact HB.out | apply qac | apply qaa | apply qab) | exact HB.out))) : w0.heap.size ≤ gb216)); clear HO0; clear HK; clear HB; have HO0 := n0_; have HK := n1_; have HB := n2_; have BK216 := n3_; have GW216 := n4_; have GE216 := n5_; clear n0_ n1_ n2_ n3_ n4_ n5_; clear hb hbox hg; obtain ⟨Ao4, co4, eo4⟩ := Kd.qbg HO0.out; subst eo4))
 go_loopg [5] k (fun kq v5 w' => ∃ (x5_1 : Int), v5 = .int .i64 x5_1 ∧ qad (spec_l08Put.l0 kq l0 x5_1 a1_0 a1_1 = some r) ∧ qad (kq ≤ k) ∧ qad (Kd.R k83 83 w' w0.heap.size (fun k_ => (P0_ k_ ∨ w.heap.size ≤ k_) ∧ k_ ≠ gb216) (.slice Ao4 l0.length co4) l0) ∧ qad (w'.heap[gb216]? = some (.cells #[.int .i64 a1_0, .int .i64 a1_1] 83 (0, 0))) ∧ qad (Kept w w' (fun k_ => P0_ k_)) ∧ qad (Below w0.heap.size w0 w'))
 case atStart => exact ⟨((l0.length : Int)), (by first | rfl | (simp; done) | (simp [*]; done)), H', ⟨Nat.le_refl _⟩, ⟨by (with_reducible repeat (first | apply Kd.qap | apply Kd.qao | apply Kd.qas)); exact HO0.out⟩, ⟨by (with_reducible repeat (first | refine qai ?_ _ | refine qaj ?_ | refine qah ?_ _)); exact BK216.out⟩, ⟨by repeat (first | (with_reducible first | exact HK.out | apply Kept.alloc | apply Kept.drewN | apply Kept.drew | refine Kept.setCell ?_ (.inr GW216.out) _) | exact HK.out)⟩, ⟨by repeat (first | (with_reducible first | exact HB.out | apply qac | apply qaa | apply qab | refine qae ?_ GE216.out) | exact HB.out)⟩⟩
 case round =>
  clear H'
  try clear p2
  obtain ⟨x5_1, rfl, HA, HK1, HO_0, BK216, HK, HB⟩ := hrel
  cases gk with
  | zero => exact absurd HA.out (by simp [spec_l08Put.l0])
  | succ k1 =>
   have H := HA.out
   clear HA
   simp only [spec_l08Put.l0] at H
   by_cases c5 : x5_1 > 0
   ·rw [if_pos c5] at H
    have c5b0 : decide (0 < x5_1) = true := decide_eq_true c5
    clear c5
    obtain ⟨ji6, hji6⟩ : ∃ j_ : Int, (wrap64 (x5_1 - 1)) = j_ := ⟨_, rfl⟩
    replace H : (if 0 ≤ (ji6) then (if (ji6) < (l0.length : Int) then ((spec_l08Less.f a1_0 a1_1 ((rd_T83 l0 (ji6)).f0) ((rd_T83 l0 (ji6)).f1)).bind fun t218 => (if t218 = true then (spec_l08Put.l0 k1 l0 ji6 a1_0 a1_1) else (if (((rd_T83 l0 (ji6)).f0) == a1_0 && (((rd_T83 l0 (ji6)).f1) == a1_1)) = true then (some l0) else ((some (([] : List (S83)) : List (S83))).bind fun y220 => (if 0 ≤ x5_1 then (if x5_1 ≤ (l0.length : Int) then ((some (l0.take (x5_1 : Int).toNat : List (S83))).bind fun y223 => (if y220.length + y223.length < 8796093022208 then ((some (y220 ++ y223 : List (S83))).bind fun y227 => (if y227.length < 8796093022208 then ((some (y227 ++ [(⟨a1_0, a1_1⟩ : S83)] : List (S83))).bind fun y230 => ((some (l0.drop (x5_1 : Int).toNat : List (S83))).bind fun y233 => (if y230.length + y233.length < 8796093022208 then (some (y230 ++ y233)) else (none)))) else (none))) else (none))) else (none)) else (none)))))) else (none)) else (none)) = some r := by first | (rw [hji6] at H; exact H) | (simp only [hji6] at H ⊢; exact H)
    have hji6w : (IntKind.i64.wrap (x5_1 - 1)) = ji6 := (i64_w _).trans hji6
    by_cases c7 : 0 ≤ (ji6)
    ·rw [if_pos c7] at H
     have c7b0 : decide (0 ≤ (ji6)) = true := decide_eq_true c7
     clear c7
     by_cases c8 : (ji6) < (l0.length : Int)
     ·rw [if_pos c8] at H
      have c8b0 : decide ((ji6) < (l0.length : Int)) = true := decide_eq_true c8
      clear c8
      replace H := Option.bind_eq_some_iff.mp H
      obtain ⟨t218, A90, H⟩ := H
      try dsimp only at H
      have A9 := qad.mk A90
      clear A90
      by_cases c10 : t218 = true
      ·subst c10
       have H1 := H
       rw [if_pos rfl] at H1
       clear H
       have H := H1
       clear H1
       have H' := qad.mk H
       clear H
       try go_wp2
       have n0_ := qad.mk (Kd.qas HO_0.out)
       have n1_ := qad.mk (qaj BK216.out)
       have n2_ := qad.mk (Kept.drew HK.out)
       have n3_ := qad.mk (qab HB.out)
       clear HO_0
       clear BK216
       clear HK
       clear HB
       have HO_0 := n0_
       have BK216 := n1_
       have HK := n2_
       have HB := n3_
       clear n0_ n1_ n2_ n3_
       have p217 : 0 ≤ ((ji6) : Int) := of_decide_eq_true (by first | (with_reducible assumption) | assumption)
       have q217 : (ji6) < (l0.length : Int) := of_decide_eq_true (by first | (with_reducible assumption) | assumption)
       obtain ⟨ad217, e217, hx217_0, hx217_1⟩ := at_T83 (Kd.qaw HO_0.out).2.2 (ji6) p217 q217
       cases e217
       replace p217 := eq_true p217
       replace q217 := eq_true q217
       refine qcb (n := 11) (S := fun w' => w'.cell? ⟨gb216, 0, none⟩ = some (.int .i64 a1_0) ∧ w'.cell? ⟨gb216, 1, none⟩ = some (.int .i64 a1_1) ∧ w'.cell? (ad217.add (((ji6)).toNat * 2)) = some (.int .i64 ((rd_T83 l0 (ji6)).f0)) ∧ w'.cell? ⟨(ad217.add (((ji6)).toNat * 2)).block, (ad217.add (((ji6)).toNat * 2)).off + 1, none⟩ = some (.int .i64 ((rd_T83 l0 (ji6)).f1))) (ds := []) #[false, false, false, false, false, false, false, false, false, false, false] (by kernel_rfl) rfl rfl ⟨(qag BK216.out 0).trans rfl, (qag BK216.out 1).trans rfl, hx217_0, hx217_1⟩ (fun hHeld => ?_); refine qbj spec_l08Put.tab2 spec_l08Put.bits2 (fun HT_ HW_ => ?_)
       generalize wr.drew = w11 at HO_0 BK216 HK HB hx217_0 hx217_1 hHeld ⊢
       refine pure_ (i := 0) (N := some 9) (v := ?_) (a' := ?_) #[true, false, false, false, false, false, false, false, false, false, false] rfl rfl (qat HT_.out (by kernel_rfl)) (fun _ _ _ h => h) (Or.inl ⟨by rfl, ?_⟩) ?_ ?_
       rotate_left
       ·intro w'
        go_simp
        with_reducible rfl
       rotate_left
       ·simp only [Act.put, List.setIfInBounds_toArray, List.set_cons_zero, List.set_cons_succ, i64_w, i32_w]
        rfl
       refine pure_ (i := 1) (N := some 10) (v := ?_) (a' := ?_) #[true, true, false, false, false, false, false, false, false, false, false] rfl rfl (qat HT_.out (by kernel_rfl)) (fun _ _ _ h => h) (Or.inl ⟨by rfl, ?_⟩) ?_ ?_
       rotate_left
       ·intro w'
        go_simp
        with_reducible rfl
       rotate_left
       ·simp only [Act.put, List.setIfInBounds_toArray, List.set_cons_zero, List.set_cons_succ, i64_w, i32_w]
        rfl
       refine pure_ (i := 2) (N := some 11) (v := ?_) (a' := ?_) #[true, true, true, false, false, false, false, false, false, false, false] rfl rfl (qat HT_.out (by kernel_rfl)) (fun _ _ _ h => h) (Or.inl ⟨by rfl, ?_⟩) ?_ ?_
       rotate_left
       ·intro w'
        go_simp
        with_reducible rfl
       rotate_left
       ·simp only [Act.put, List.setIfInBounds_toArray, List.set_cons_zero, List.set_cons_succ, i64_w, i32_w]
        rfl
       refine pure_ (i := 4) (N := some 13) (v := ?_) (a' := ?_) #[true, true, true, false, true, false, false, false, false, false, false] rfl rfl (qat HT_.out (by kernel_rfl)) (fun _ _ _ h => h) (Or.inl ⟨by rfl, ?_⟩) ?_ ?_
       rotate_left
       ·intro w'
        go_simp
        with_reducible rfl
       rotate_left
       ·simp only [Act.put, List.setIfInBounds_toArray, List.set_cons_zero, List.set_cons_succ, i64_w, i32_w]
        rfl
       refine pure_ (i := 5) (N := some 14) (v := ?_) (a' := ?_) #[true, true, true, false, true, true, false, false, false, false, false] rfl rfl (qat HT_.out (by kernel_rfl)) (fun _ _ _ h => h) (Or.inl ⟨by rfl, ?_⟩) ?_ ?_
       rotate_left
       ·intro w'
        go_simp
        with_reducible rfl
       rotate_left
       ·simp only [Act.put, List.setIfInBounds_toArray, List.set_cons_zero, List.set_cons_succ, i64_w, i32_w]
        rfl
       refine pure_ (i := 6) (N := some 15) (v := ?_) (a' := ?_) #[true, true, true, false, true, true, true, false, false, false, false] rfl rfl (qat HT_.out (by kernel_rfl)) (fun _ _ _ h => h) (Or.inl ⟨by rfl, ?_⟩) ?_ ?_
       rotate_left
       ·intro w'
        go_simp
        with_reducible rfl
       rotate_left
       ·simp only [Act.put, List.setIfInBounds_toArray, List.set_cons_zero, List.set_cons_succ, i64_w, i32_w]
        rfl
       refine pure_ (i := 7) (N := some 16) (v := ?_) (a' := ?_) #[true, true, true, false, true, true, true, true, false, false, false] rfl rfl (qat HT_.out (by kernel_rfl)) (fun _ _ _ h => h) (Or.inl ⟨by rfl, ?_⟩) ?_ ?_
       rotate_left
       ·intro w'
        go_simp
        with_reducible rfl
       rotate_left
       ·simp only [Act.put, List.setIfInBounds_toArray, List.set_cons_zero, List.set_cons_succ, i64_w, i32_w]
        rfl
       refine take_ (i := 3) (N := some 12) (v := ?_) (a' := ?_) #[true, true, true, true, true, true, true, true, false, false, false] rfl rfl (qbc HT_.out HW_.out (by kernel_rfl)) (fun _ _ _ h => h) (Or.inl ⟨by rfl, ?_⟩) hHeld ?_ ?_
       rotate_left
       ·rintro w' ⟨s0, s1, s2, s3⟩
        go_simp
        with_reducible rfl
       rotate_left
       ·simp only [Act.put, List.setIfInBounds_toArray, List.set_cons_zero, List.set_cons_succ, i64_w, i32_w]
        rfl
       refine take_ (i := 8) (N := some 17) (v := ?_) (a' := ?_) #[true, true, true, true, true, true, true, true, true, false, false] rfl rfl (qbc HT_.out HW_.out (by kernel_rfl)) (fun _ _ _ h => h) (Or.inl ⟨by rfl, ?_⟩) hHeld ?_ ?_
       rotate_left
       ·rintro w' ⟨s0, s1, s2, s3⟩
        go_simp
        with_reducible rfl
       rotate_left
       ·simp only [Act.put, List.setIfInBounds_toArray, List.set_cons_zero, List.set_cons_succ, i64_w, i32_w]
        rfl
       refine one_ (i := 9) (N := some 18) #[true, true, true, true, true, true, true, true, true, true, false] rfl rfl (qcj HT_.out (by kernel_rfl)) (by decide) (fun K hK => ?_)
       refine goes_ Try.func134 (by kernel_rfl) rfl #[.agg #[.int .i64 a1_0, .int .i64 a1_1], .agg #[.int .i64 ((rd_T83 l0 (ji6)).f0), .int .i64 ((rd_T83 l0 (ji6)).f1)]] (by rfl) rfl rfl (by (try simp only [List.map_toArray, List.map_cons, List.map_nil]); first | done | (simp only [hji6]; rfl) | rfl | (simp only [List.length_drop, List.length_take]; rfl)) ?_
       with_reducible refine (spec_l08Less.calls a1_0 a1_1 ((rd_T83 l0 (ji6)).f0) ((rd_T83 l0 (ji6)).f1) true _ A9.out).mono ?_
       rintro e w12 ⟨rfl, hb⟩
       have HS2_ := (hb.cell (World.block_lt_of_cell? _ _ (hHeld.2.2.1))).trans (hHeld.2.2.1)
       have HS3_ := (hb.cell (World.block_lt_of_cell? _ _ (hHeld.2.2.2))).trans (hHeld.2.2.2)
       refine ⟨_, rfl, ?_⟩
       have n0_ := qad.mk (Kd.qax (by (with_reducible repeat (first | apply Kd.qap | apply Kd.qao | apply Kd.qas)); exact HO_0.out) hb)
       have n1_ := qad.mk (qam (g := gb216) (o := .cells #[.int .i64 a1_0, .int .i64 a1_1] 83 (0, 0)) (by (with_reducible repeat (first | refine qai ?_ _ | refine qaj ?_ | refine qah ?_ _)); exact BK216.out) hb)
       have n2_ := qad.mk (Kept.below (S := (fun k_ => P0_ k_)) (by repeat (first | (with_reducible first | exact HK.out | apply Kept.alloc | apply Kept.drewN | apply Kept.drew | refine Kept.setCell ?_ (.inr GW216.out) _) | exact HK.out)) hb)
       have n3_ := qad.mk (qak (by repeat (first | (with_reducible first | exact HB.out | apply qac | apply qaa | apply qab | refine qae ?_ GE216.out) | exact HB.out)) hb)
       clear HO_0
       clear BK216
       clear HK
       clear HB
       have HO_0 := n0_
       have BK216 := n1_
       have HK := n2_
       have HB := n3_
       clear n0_ n1_ n2_ n3_
       (try clear hb)
       (try clear hb2)
       (try clear hk)
       (try clear hi)
       refine hK.out _ _ ⟨(qag BK216.out 0).trans rfl, (qag BK216.out 1).trans rfl, HS2_, HS3_⟩ (fun hHeld => ?_)
       clear hK K
       refine norm_ (a' := ?_) ?_ ?_
       rotate_left
       ·show Act.put _ (some 18) _ = _
        simp only [Act.put, List.setIfInBounds_toArray, List.set_cons_zero, List.set_cons_succ, i64_w, i32_w]
        rfl
       refine pure_ (i := 10) (N := some 19) (v := ?_) (a' := ?_) #[true, true, true, true, true, true, true, true, true, true, true] rfl rfl (qat HT_.out (by kernel_rfl)) (fun _ _ _ h => h) (Or.inl ⟨by rfl, ?_⟩) ?_ ?_
       rotate_left
       ·intro w'
        go_simp
        with_reducible rfl
       rotate_left
       ·simp only [Act.put, List.setIfInBounds_toArray, List.set_cons_zero, List.set_cons_succ, i64_w, i32_w]
        rfl
       refine done_ (qca HT_.out (by kernel_rfl)) ?_
       try go_wp2
       go_roundg k1
       case measure => have := HK1.out; omega
       case rel => exact ⟨(ji6), (by first | rfl | (simp; done) | (simp only [← hji6] <;> (first | rfl | simp)) | (simp [*]; done)), H', ⟨by have := HK1.out; omega⟩, ⟨by (with_reducible repeat (first | apply Kd.qap | apply Kd.qao | apply Kd.qas)); exact HO_0.out⟩, ⟨by (with_reducible repeat (first | refine qai ?_ _ | refine qaj ?_ | refine qah ?_ _)); exact BK216.out⟩, ⟨by repeat (first | (with_reducible first | exact HK.out | apply Kept.alloc | apply Kept.drewN | apply Kept.drew | refine Kept.setCell ?_ (.inr GW216.out) _) | exact HK.out)⟩, ⟨by repeat (first | (with_reducible first | exact HB.out | apply qac | apply qaa | apply qab | refine qae ?_ GE216.out) | exact HB.out)⟩⟩
      ·replace c10 := Bool.eq_false_iff.mpr c10
       subst c10
       have H1 := H
       rw [if_neg (show ¬ (false = true) by decide)] at H1
       clear H
       have H := H1
       clear H1
       by_cases c13 : (((rd_T83 l0 (ji6)).f0) == a1_0 && (((rd_T83 l0 (ji6)).f1) == a1_1)) = true
       ·rw [if_pos c13] at H
        have c13b0 : (((rd_T83 l0 (ji6)).f0) == a1_0 && (((rd_T83 l0 (ji6)).f1) == a1_1)) = true := c13
        (try (have c13b1 : decide (((rd_T83 l0 (ji6)).f0) = a1_0 && (((rd_T83 l0 (ji6)).f1) == a1_1)) = true := by simpa using c13))
        (try (have c13b2 : (((rd_T83 l0 (ji6)).f0) == a1_0 && (((rd_T83 l0 (ji6)).f1) == a1_1)) = true := by simpa using c13))
        clear c13
        obtain rfl := Option.some.inj H
        try go_wp2
        have n0_ := qad.mk (Kd.qas HO_0.out)
        have n1_ := qad.mk (qaj BK216.out)
        have n2_ := qad.mk (Kept.drew HK.out)
        have n3_ := qad.mk (qab HB.out)
        clear HO_0
        clear BK216
        clear HK
        clear HB
        have HO_0 := n0_
        have BK216 := n1_
        have HK := n2_
        have HB := n3_
        clear n0_ n1_ n2_ n3_
        have p217 : 0 ≤ ((ji6) : Int) := of_decide_eq_true (by first | (with_reducible assumption) | assumption)
        have q217 : (ji6) < (l0.length : Int) := of_decide_eq_true (by first | (with_reducible assumption) | assumption)
        obtain ⟨ad217, e217, hx217_0, hx217_1⟩ := at_T83 (Kd.qaw HO_0.out).2.2 (ji6) p217 q217
        cases e217
        replace p217 := eq_true p217
        replace q217 := eq_true q217
        refine qcb (n := 11) (S := fun w' => w'.cell? ⟨gb216, 0, none⟩ = some (.int .i64 a1_0) ∧ w'.cell? ⟨gb216, 1, none⟩ = some (.int .i64 a1_1) ∧ w'.cell? (ad217.add (((ji6)).toNat * 2)) = some (.int .i64 ((rd_T83 l0 (ji6)).f0)) ∧ w'.cell? ⟨(ad217.add (((ji6)).toNat * 2)).block, (ad217.add (((ji6)).toNat * 2)).off + 1, none⟩ = some (.int .i64 ((rd_T83 l0 (ji6)).f1))) (ds := []) #[false, false, false, false, false, false, false, false, false, false, false] (by kernel_rfl) rfl rfl ⟨(qag BK216.out 0).trans rfl, (qag BK216.out 1).trans rfl, hx217_0, hx217_1⟩ (fun hHeld => ?_); refine qbj spec_l08Put.tab2 spec_l08Put.bits2 (fun HT_ HW_ => ?_)
        generalize wr.drew = w14 at HO_0 BK216 HK HB hx217_0 hx217_1 hHeld ⊢
        refine pure_ (i := 0) (N := some 9) (v := ?_) (a' := ?_) #[true, false, false, false, false, false, false, false, false, false, false] rfl rfl (qat HT_.out (by kernel_rfl)) (fun _ _ _ h => h) (Or.inl ⟨by rfl, ?_⟩) ?_ ?_
        rotate_left
        ·intro w'
         go_simp
         with_reducible rfl
        rotate_left
        ·simp only [Act.put, List.setIfInBounds_toArray, List.set_cons_zero, List.set_cons_succ, i64_w, i32_w]
         rfl
        refine pure_ (i := 1) (N := some 10) (v := ?_) (a' := ?_) #[true, true, false, false, false, false, false, false, false, false, false] rfl rfl (qat HT_.out (by kernel_rfl)) (fun _ _ _ h => h) (Or.inl ⟨by rfl, ?_⟩) ?_ ?_
        rotate_left
        ·intro w'
         go_simp
         with_reducible rfl
        rotate_left
        ·simp only [Act.put, List.setIfInBounds_toArray, List.set_cons_zero, List.set_cons_succ, i64_w, i32_w]
         rfl
        refine pure_ (i := 2) (N := some 11) (v := ?_) (a' := ?_) #[true, true, true, false, false, false, false, false, false, false, false] rfl rfl (qat HT_.out (by kernel_rfl)) (fun _ _ _ h => h) (Or.inl ⟨by rfl, ?_⟩) ?_ ?_
        rotate_left
        ·intro w'
         go_simp
         with_reducible rfl
        rotate_left
        ·simp only [Act.put, List.setIfInBounds_toArray, List.set_cons_zero, List.set_cons_succ, i64_w, i32_w]
         rfl
        refine pure_ (i := 4) (N := some 13) (v := ?_) (a' := ?_) #[true, true, true, false, true, false, false, false, false, false, false] rfl rfl (qat HT_.out (by kernel_rfl)) (fun _ _ _ h => h) (Or.inl ⟨by rfl, ?_⟩) ?_ ?_
        rotate_left
        ·intro w'
         go_simp
         with_reducible rfl
        rotate_left
        ·simp only [Act.put, List.setIfInBounds_toArray, List.set_cons_zero, List.set_cons_succ, i64_w, i32_w]
         rfl
        refine pure_ (i := 5) (N := some 14) (v := ?_) (a' := ?_) #[true, true, true, false, true, true, false, false, false, false, false] rfl rfl (qat HT_.out (by kernel_rfl)) (fun _ _ _ h => h) (Or.inl ⟨by rfl, ?_⟩) ?_ ?_
        rotate_left
        ·intro w'
         go_simp
         with_reducible rfl
        rotate_left
        ·simp only [Act.put, List.setIfInBounds_toArray, List.set_cons_zero, List.set_cons_succ, i64_w, i32_w]
         rfl
        refine pure_ (i := 6) (N := some 15) (v := ?_) (a' := ?_) #[true, true, true, false, true, true, true, false, false, false, false] rfl rfl (qat HT_.out (by kernel_rfl)) (fun _ _ _ h => h) (Or.inl ⟨by rfl, ?_⟩) ?_ ?_
        rotate_left
        ·intro w'
         go_simp
         with_reducible rfl
        rotate_left
        ·simp only [Act.put, List.setIfInBounds_toArray, List.set_cons_zero, List.set_cons_succ, i64_w, i32_w]
         rfl
        refine pure_ (i := 7) (N := some 16) (v := ?_) (a' := ?_) #[true, true, true, false, true, true, true, true, false, false, false] rfl rfl (qat HT_.out (by kernel_rfl)) (fun _ _ _ h => h) (Or.inl ⟨by rfl, ?_⟩) ?_ ?_
        rotate_left
        ·intro w'
         go_simp
         with_reducible rfl
        rotate_left
        ·simp only [Act.put, List.setIfInBounds_toArray, List.set_cons_zero, List.set_cons_succ, i64_w, i32_w]
         rfl
        refine take_ (i := 3) (N := some 12) (v := ?_) (a' := ?_) #[true, true, true, true, true, true, true, true, false, false, false] rfl rfl (qbc HT_.out HW_.out (by kernel_rfl)) (fun _ _ _ h => h) (Or.inl ⟨by rfl, ?_⟩) hHeld ?_ ?_
        rotate_left
        ·rintro w' ⟨s0, s1, s2, s3⟩
         go_simp
         with_reducible rfl
        rotate_left
        ·simp only [Act.put, List.setIfInBounds_toArray, List.set_cons_zero, List.set_cons_succ, i64_w, i32_w]
         rfl
        refine take_ (i := 8) (N := some 17) (v := ?_) (a' := ?_) #[true, true, true, true, true, true, true, true, true, false, false] rfl rfl (qbc HT_.out HW_.out (by kernel_rfl)) (fun _ _ _ h => h) (Or.inl ⟨by rfl, ?_⟩) hHeld ?_ ?_
        rotate_left
        ·rintro w' ⟨s0, s1, s2, s3⟩
         go_simp
         with_reducible rfl
        rotate_left
        ·simp only [Act.put, List.setIfInBounds_toArray, List.set_cons_zero, List.set_cons_succ, i64_w, i32_w]
         rfl
        refine one_ (i := 9) (N := some 18) #[true, true, true, true, true, true, true, true, true, true, false] rfl rfl (qcj HT_.out (by kernel_rfl)) (by decide) (fun K hK => ?_)
        refine goes_ Try.func134 (by kernel_rfl) rfl #[.agg #[.int .i64 a1_0, .int .i64 a1_1], .agg #[.int .i64 ((rd_T83 l0 (ji6)).f0), .int .i64 ((rd_T83 l0 (ji6)).f1)]] (by rfl) rfl rfl (by (try simp only [List.map_toArray, List.map_cons, List.map_nil]); first | done | (simp only [hji6]; rfl) | rfl | (simp only [List.length_drop, List.length_take]; rfl)) ?_
        with_reducible refine (spec_l08Less.calls a1_0 a1_1 ((rd_T83 l0 (ji6)).f0) ((rd_T83 l0 (ji6)).f1) false _ A9.out).mono ?_
        rintro e w15 ⟨rfl, hb⟩
        have HS2_ := (hb.cell (World.block_lt_of_cell? _ _ (hHeld.2.2.1))).trans (hHeld.2.2.1)
        have HS3_ := (hb.cell (World.block_lt_of_cell? _ _ (hHeld.2.2.2))).trans (hHeld.2.2.2)
        refine ⟨_, rfl, ?_⟩
        have n0_ := qad.mk (Kd.qax (by (with_reducible repeat (first | apply Kd.qap | apply Kd.qao | apply Kd.qas)); exact HO_0.out) hb)
        have n1_ := qad.mk (qam (g := gb216) (o := .cells #[.int .i64 a1_0, .int .i64 a1_1] 83 (0, 0)) (by (with_reducible repeat (first | refine qai ?_ _ | refine qaj ?_ | refine qah ?_ _)); exact BK216.out) hb)
        have n2_ := qad.mk (Kept.below (S := (fun k_ => P0_ k_)) (by repeat (first | (with_reducible first | exact HK.out | apply Kept.alloc | apply Kept.drewN | apply Kept.drew | refine Kept.setCell ?_ (.inr GW216.out) _) | exact HK.out)) hb)
        have n3_ := qad.mk (qak (by repeat (first | (with_reducible first | exact HB.out | apply qac | apply qaa | apply qab | refine qae ?_ GE216.out) | exact HB.out)) hb)
        clear HO_0
        clear BK216
        clear HK
        clear HB
        have HO_0 := n0_
        have BK216 := n1_
        have HK := n2_
        have HB := n3_
        clear n0_ n1_ n2_ n3_
        (try clear hb)
        (try clear hb2)
        (try clear hk)
        (try clear hi)
        refine hK.out _ _ ⟨(qag BK216.out 0).trans rfl, (qag BK216.out 1).trans rfl, HS2_, HS3_⟩ (fun hHeld => ?_)
        clear hK K
        refine norm_ (a' := ?_) ?_ ?_
        rotate_left
        ·show Act.put _ (some 18) _ = _
         simp only [Act.put, List.setIfInBounds_toArray, List.set_cons_zero, List.set_cons_succ, i64_w, i32_w]
         rfl
        refine pure_ (i := 10) (N := some 19) (v := ?_) (a' := ?_) #[true, true, true, true, true, true, true, true, true, true, true] rfl rfl (qat HT_.out (by kernel_rfl)) (fun _ _ _ h => h) (Or.inl ⟨by rfl, ?_⟩) ?_ ?_
        rotate_left
        ·intro w'
         go_simp
         with_reducible rfl
        rotate_left
        ·simp only [Act.put, List.setIfInBounds_toArray, List.set_cons_zero, List.set_cons_succ, i64_w, i32_w]
         rfl
        refine done_ (qca HT_.out (by kernel_rfl)) ?_
        try go_wp2
        have n0_ := qad.mk (Kd.qas HO_0.out)
        have n1_ := qad.mk (qaj BK216.out)
        have n2_ := qad.mk (Kept.drew HK.out)
        have n3_ := qad.mk (qab HB.out)
        clear HO_0
        clear BK216
        clear HK
        clear HB
        have HO_0 := n0_
        have BK216 := n1_
        have HK := n2_
        have HB := n3_
        clear n0_ n1_ n2_ n3_
        have p219 : 0 ≤ ((ji6) : Int) := of_decide_eq_true (by first | (with_reducible assumption) | assumption)
        have q219 : (ji6) < (l0.length : Int) := of_decide_eq_true (by first | (with_reducible assumption) | assumption)
        obtain ⟨ad219, e219, hx219_0, hx219_1⟩ := at_T83 (Kd.qaw HO_0.out).2.2 (ji6) p219 q219
        obtain rfl : ad217 = ad219 := (by injection e219)
        replace p219 := eq_true p219
        replace q219 := eq_true q219
        refine qcb (n := 11) (S := fun w' => w'.cell? ⟨gb216, 0, none⟩ = some (.int .i64 a1_0) ∧ w'.cell? ⟨gb216, 1, none⟩ = some (.int .i64 a1_1) ∧ w'.cell? (ad217.add (((ji6)).toNat * 2)) = some (.int .i64 ((rd_T83 l0 (ji6)).f0)) ∧ w'.cell? ⟨(ad217.add (((ji6)).toNat * 2)).block, (ad217.add (((ji6)).toNat * 2)).off + 1, none⟩ = some (.int .i64 ((rd_T83 l0 (ji6)).f1))) (ds := []) #[false, false, false, false, false, false, false, false, false, false, false] (by kernel_rfl) rfl rfl ⟨(qag BK216.out 0).trans rfl, (qag BK216.out 1).trans rfl, hx219_0, hx219_1⟩ (fun hHeld => ?_); refine qbj spec_l08Put.tab4 spec_l08Put.bits4 (fun HT_ HW_ => ?_)
        generalize w15.drew = w16 at HO_0 BK216 HK HB hx219_0 hx219_1 hHeld ⊢
        refine pure_ (i := 0) (N := some 22) (v := ?_) (a' := ?_) #[true, false, false, false, false, false, false, false, false, false, false] rfl rfl (qat HT_.out (by kernel_rfl)) (fun _ _ _ h => h) (Or.inl ⟨by rfl, ?_⟩) ?_ ?_
        rotate_left
        ·intro w'
         go_simp
         with_reducible rfl
        rotate_left
        ·simp only [Act.put, List.setIfInBounds_toArray, List.set_cons_zero, List.set_cons_succ, i64_w, i32_w]
         rfl
        refine pure_ (i := 1) (N := some 23) (v := ?_) (a' := ?_) #[true, true, false, false, false, false, false, false, false, false, false] rfl rfl (qat HT_.out (by kernel_rfl)) (fun _ _ _ h => h) (Or.inl ⟨by rfl, ?_⟩) ?_ ?_
        rotate_left
        ·intro w'
         go_simp
         with_reducible rfl
        rotate_left
        ·simp only [Act.put, List.setIfInBounds_toArray, List.set_cons_zero, List.set_cons_succ, i64_w, i32_w]
         rfl
        refine pure_ (i := 2) (N := some 24) (v := ?_) (a' := ?_) #[true, true, true, false, false, false, false, false, false, false, false] rfl rfl (qat HT_.out (by kernel_rfl)) (fun _ _ _ h => h) (Or.inl ⟨by rfl, ?_⟩) ?_ ?_
        rotate_left
        ·intro w'
         go_simp
         with_reducible rfl
        rotate_left
        ·simp only [Act.put, List.setIfInBounds_toArray, List.set_cons_zero, List.set_cons_succ, i64_w, i32_w]
         rfl
        refine pure_ (i := 3) (N := some 25) (v := ?_) (a' := ?_) #[true, true, true, true, false, false, false, false, false, false, false] rfl rfl (qat HT_.out (by kernel_rfl)) (fun _ _ _ h => h) (Or.inl ⟨by rfl, ?_⟩) ?_ ?_
        rotate_left
        ·intro w'
         go_simp
         with_reducible rfl
        rotate_left
        ·simp only [Act.put, List.setIfInBounds_toArray, List.set_cons_zero, List.set_cons_succ, i64_w, i32_w]
         rfl
        refine pure_ (i := 4) (N := some 26) (v := ?_) (a' := ?_) #[true, true, true, true, true, false, false, false, false, false, false] rfl rfl (qat HT_.out (by kernel_rfl)) (fun _ _ _ h => h) (Or.inl ⟨by rfl, ?_⟩) ?_ ?_
        rotate_left
        ·intro w'
         go_simp
         with_reducible rfl
        rotate_left
        ·simp only [Act.put, List.setIfInBounds_toArray, List.set_cons_zero, List.set_cons_succ, i64_w, i32_w]
         rfl
        refine pure_ (i := 5) (N := some 27) (v := ?_) (a' := ?_) #[true, true, true, true, true, true, false, false, false, false, false] rfl rfl (qat HT_.out (by kernel_rfl)) (fun _ _ _ h => h) (Or.inl ⟨by rfl, ?_⟩) ?_ ?_
        rotate_left
        ·intro w'
         go_simp
         with_reducible rfl
        rotate_left
        ·simp only [Act.put, List.setIfInBounds_toArray, List.set_cons_zero, List.set_cons_succ, i64_w, i32_w]
         rfl
        refine pure_ (i := 6) (N := some 28) (v := ?_) (a' := ?_) #[true, true, true, true, true, true, true, false, false, false, false] rfl rfl (qat HT_.out (by kernel_rfl)) (fun _ _ _ h => h) (Or.inl ⟨by rfl, ?_⟩) ?_ ?_
        rotate_left
        ·intro w'
         go_simp
         with_reducible rfl
        rotate_left
        ·simp only [Act.put, List.setIfInBounds_toArray, List.set_cons_zero, List.set_cons_succ, i64_w, i32_w]
         rfl
        refine take_ (i := 7) (N := some 29) (v := ?_) (a' := ?_) #[true, true, true, true, true, true, true, true, false, false, false] rfl rfl (qbc HT_.out HW_.out (by kernel_rfl)) (fun _ _ _ h => h) (Or.inl ⟨by rfl, ?_⟩) hHeld ?_ ?_
        rotate_left
        ·rintro w' ⟨s0, s1, s2, s3⟩
         go_simp
         with_reducible rfl
        rotate_left
        ·simp only [Act.put, List.setIfInBounds_toArray, List.set_cons_zero, List.set_cons_succ, i64_w, i32_w]
         rfl
        refine take_ (i := 8) (N := some 30) (v := ?_) (a' := ?_) #[true, true, true, true, true, true, true, true, true, false, false] rfl rfl (qbc HT_.out HW_.out (by kernel_rfl)) (fun _ _ _ h => h) (Or.inl ⟨by rfl, ?_⟩) hHeld ?_ ?_
        rotate_left
        ·rintro w' ⟨s0, s1, s2, s3⟩
         go_simp
         with_reducible rfl
        rotate_left
        ·simp only [Act.put, List.setIfInBounds_toArray, List.set_cons_zero, List.set_cons_succ, i64_w, i32_w]
         rfl
        refine pure_ (i := 9) (N := some 31) (v := ?_) (a' := ?_) #[true, true, true, true, true, true, true, true, true, true, false] rfl rfl (qat HT_.out (by kernel_rfl)) (fun _ _ _ h => h) (Or.inl ⟨by rfl, ?_⟩) ?_ ?_
        rotate_left
        ·intro w'
         go_simp
         with_reducible rfl
        rotate_left
        ·simp only [Act.put, List.setIfInBounds_toArray, List.set_cons_zero, List.set_cons_succ, i64_w, i32_w]
         rfl
        refine pure_ (i := 10) (N := some 32) (v := ?_) (a' := ?_) #[true, true, true, true, true, true, true, true, true, true, true] rfl rfl (qat HT_.out (by kernel_rfl)) (fun _ _ _ h => h) (Or.inl ⟨by rfl, ?_⟩) ?_ ?_
        rotate_left
        ·intro w'
         go_simp
         with_reducible rfl
        rotate_left
        ·simp only [Act.put, List.setIfInBounds_toArray, List.set_cons_zero, List.set_cons_succ, i64_w, i32_w]
         rfl
        refine done_ (qca HT_.out (by kernel_rfl)) ?_
        try go_wp2
        go_ret
        exact ⟨_, by first | rfl | (simp [errW_none, errW_some] <;> rfl) | (simp only [← hji6]; first | rfl | (simp [errW_none, errW_some] <;> rfl)) | (simp [*, errW_none, errW_some] <;> rfl), by (with_reducible repeat (first | apply Kd.qap | apply Kd.qao | apply Kd.qas)); exact Kd.qbe HO_0.out (fun _ hk => hk.1), by repeat (first | (with_reducible first | exact HB.out | apply qac | apply qaa | apply qab | refine qae ?_ GE216.out) | exact HB.out), by repeat (first | (with_reducible first | exact HK.out | apply Kept.alloc | apply Kept.drewN | apply Kept.drew | refine Kept.setCell ?_ (.inr GW216.out) _) | exact HK.out)⟩
       ·rw [if_neg c13] at H
        have c13b0 : (((rd_T83 l0 (ji6)).f0) == a1_0 && (((rd_T83 l0 (ji6)).f1) == a1_1)) = false := by simpa using c13
        (try (have c13b1 : decide (((rd_T83 l0 (ji6)).f0) = a1_0 && (((rd_T83 l0 (ji6)).f1) == a1_1)) = false := by simpa using c13))
        (try (have c13b2 : (((rd_T83 l0 (ji6)).f0) == a1_0 && (((rd_T83 l0 (ji6)).f1) == a1_1)) = false := by simpa using c13))
        (try (have c13b3 : ¬ (((rd_T83 l0 (ji6)).f0) = a1_0 && (((rd_T83 l0 (ji6)).f1) == a1_1)) := by simpa using c13))
        clear c13
        obtain ⟨y220, hy220⟩ : ∃ y_ : List (S83), y_ = (([] : List (S83))) := ⟨_, rfl⟩
        replace H : (if 0 ≤ x5_1 then (if x5_1 ≤ (l0.length : Int) then ((some (l0.take (x5_1 : Int).toNat : List (S83))).bind fun y223 => (if y220.length + y223.length < 8796093022208 then ((some (y220 ++ y223 : List (S83))).bind fun y227 => (if y227.length < 8796093022208 then ((some (y227 ++ [(⟨a1_0, a1_1⟩ : S83)] : List (S83))).bind fun y230 => ((some (l0.drop (x5_1 : Int).toNat : List (S83))).bind fun y233 => (if y230.length + y233.length < 8796093022208 then (some (y230 ++ y233)) else (none)))) else (none))) else (none))) else (none)) else (none)) = some r := by first | (rw [hy220]; with_reducible exact H) | (have H2_ := (Option.bind_some _ _).symm.trans H; rw [hy220]; with_reducible exact H2_) | (have H2_ := (Option.bind_some _ _).symm.trans H; with_reducible exact H2_) | with_reducible exact H | (rw [hy220]; exact H) | exact H
        have Ny220 := qad.mk hy220
        clear hy220
        by_cases c17 : 0 ≤ x5_1
        ·rw [if_pos c17] at H
         have c17b0 := eq_true c17
         have c17b1 : decide (0 ≤ x5_1) = true := decide_eq_true c17
         clear c17
         by_cases c18 : x5_1 ≤ (l0.length : Int)
         ·rw [if_pos c18] at H
          have c18b0 := eq_true c18
          have c18b1 : decide (x5_1 ≤ (l0.length : Int)) = true := decide_eq_true c18
          clear c18
          obtain ⟨y223, hy223⟩ : ∃ y_ : List (S83), y_ = (l0.take (x5_1 : Int).toNat) := ⟨_, rfl⟩
          replace H : (if y220.length + y223.length < 8796093022208 then ((some (y220 ++ y223 : List (S83))).bind fun y227 => (if y227.length < 8796093022208 then ((some (y227 ++ [(⟨a1_0, a1_1⟩ : S83)] : List (S83))).bind fun y230 => ((some (l0.drop (x5_1 : Int).toNat : List (S83))).bind fun y233 => (if y230.length + y233.length < 8796093022208 then (some (y230 ++ y233)) else (none)))) else (none))) else (none)) = some r := by first | (rw [hy223]; with_reducible exact H) | (have H2_ := (Option.bind_some _ _).symm.trans H; rw [hy223]; with_reducible exact H2_) | (have H2_ := (Option.bind_some _ _).symm.trans H; with_reducible exact H2_) | with_reducible exact H | (rw [hy223]; exact H) | exact H
          have Ny223 := qad.mk hy223
          clear hy223
          by_cases c19 : y220.length + y223.length < 8796093022208
          ·rw [if_pos c19] at H
           have LMc19 := qad.mk c19
           clear c19
           obtain ⟨y227, hy227⟩ : ∃ y_ : List (S83), y_ = (y220 ++ y223) := ⟨_, rfl⟩
           replace H : (if y227.length < 8796093022208 then ((some (y227 ++ [(⟨a1_0, a1_1⟩ : S83)] : List (S83))).bind fun y230 => ((some (l0.drop (x5_1 : Int).toNat : List (S83))).bind fun y233 => (if y230.length + y233.length < 8796093022208 then (some (y230 ++ y233)) else (none)))) else (none)) = some r := by first | (rw [hy227]; with_reducible exact H) | (have H2_ := (Option.bind_some _ _).symm.trans H; rw [hy227]; with_reducible exact H2_) | (have H2_ := (Option.bind_some _ _).symm.trans H; with_reducible exact H2_) | with_reducible exact H | (rw [hy227]; exact H) | exact H
           have Ny227 := qad.mk hy227
           clear hy227
           by_cases c20 : y227.length < 8796093022208
           ·rw [if_pos c20] at H
            have LMc20 := qad.mk c20
            clear c20
            obtain ⟨y230, hy230⟩ : ∃ y_ : List (S83), y_ = (y227 ++ [(⟨a1_0, a1_1⟩ : S83)]) := ⟨_, rfl⟩
            replace H : ((some (l0.drop (x5_1 : Int).toNat : List (S83))).bind fun y233 => (if y230.length + y233.length < 8796093022208 then (some (y230 ++ y233)) else (none))) = some r := by first | (rw [hy230]; with_reducible exact H) | (have H2_ := (Option.bind_some _ _).symm.trans H; rw [hy230]; with_reducible exact H2_) | (have H2_ := (Option.bind_some _ _).symm.trans H; with_reducible exact H2_) | with_reducible exact H | (rw [hy230]; exact H) | exact H
            have Ny230 := qad.mk hy230
            clear hy230
            have c21b0 := eq_true (of_decide_eq_true (by first | (with_reducible assumption) | assumption) : 0 ≤ x5_1)
            have c22b0 := eq_true (of_decide_eq_true (by first | (with_reducible assumption) | assumption) : x5_1 ≤ (l0.length : Int))
            obtain ⟨y233, hy233⟩ : ∃ y_ : List (S83), y_ = (l0.drop (x5_1 : Int).toNat) := ⟨_, rfl⟩
            replace H : (if y230.length + y233.length < 8796093022208 then (some (y230 ++ y233)) else (none)) = some r := by first | (rw [hy233]; with_reducible exact H) | (have H2_ := (Option.bind_some _ _).symm.trans H; rw [hy233]; with_reducible exact H2_) | (have H2_ := (Option.bind_some _ _).symm.trans H; with_reducible exact H2_) | with_reducible exact H | (rw [hy233]; exact H) | exact H
            have Ny233 := qad.mk hy233
            clear hy233
            by_cases c23 : y230.length + y233.length < 8796093022208
            ·rw [if_pos c23] at H
             have LMc23 := qad.mk c23
             clear c23
             obtain ⟨y237, hy237⟩ : ∃ y_ : List (S83), y_ = (y230 ++ y233) := ⟨_, rfl⟩
             replace H : (some y237) = some r := by first | (rw [hy237]; with_reducible exact H) | (have H2_ := (Option.bind_some _ _).symm.trans H; rw [hy237]; with_reducible exact H2_) | (have H2_ := (Option.bind_some _ _).symm.trans H; with_reducible exact H2_) | with_reducible exact H | (rw [hy237]; exact H) | exact H
             have Ny237 := qad.mk hy237
             clear hy237
             obtain rfl := Option.some.inj H
             try go_wp2
             have n0_ := qad.mk (Kd.qas HO_0.out)
             have n1_ := qad.mk (qaj BK216.out)
             have n2_ := qad.mk (Kept.drew HK.out)
             have n3_ := qad.mk (qab HB.out)
             clear HO_0
             clear BK216
             clear HK
             clear HB
             have HO_0 := n0_
             have BK216 := n1_
             have HK := n2_
             have HB := n3_
             clear n0_ n1_ n2_ n3_
             have p217 : 0 ≤ ((ji6) : Int) := of_decide_eq_true (by first | (with_reducible assumption) | assumption)
             have q217 : (ji6) < (l0.length : Int) := of_decide_eq_true (by first | (with_reducible assumption) | assumption)
             obtain ⟨ad217, e217, hx217_0, hx217_1⟩ := at_T83 (Kd.qaw HO_0.out).2.2 (ji6) p217 q217
             cases e217
             replace p217 := eq_true p217
             replace q217 := eq_true q217
             refine qcb (n := 11) (S := fun w' => w'.cell? ⟨gb216, 0, none⟩ = some (.int .i64 a1_0) ∧ w'.cell? ⟨gb216, 1, none⟩ = some (.int .i64 a1_1) ∧ w'.cell? (ad217.add (((ji6)).toNat * 2)) = some (.int .i64 ((rd_T83 l0 (ji6)).f0)) ∧ w'.cell? ⟨(ad217.add (((ji6)).toNat * 2)).block, (ad217.add (((ji6)).toNat * 2)).off + 1, none⟩ = some (.int .i64 ((rd_T83 l0 (ji6)).f1))) (ds := []) #[false, false, false, false, false, false, false, false, false, false, false] (by kernel_rfl) rfl rfl ⟨(qag BK216.out 0).trans rfl, (qag BK216.out 1).trans rfl, hx217_0, hx217_1⟩ (fun hHeld => ?_); refine qbj spec_l08Put.tab2 spec_l08Put.bits2 (fun HT_ HW_ => ?_)
             generalize wr.drew = w24 at HO_0 BK216 HK HB hx217_0 hx217_1 hHeld ⊢
             refine pure_ (i := 0) (N := some 9) (v := ?_) (a' := ?_) #[true, false, false, false, false, false, false, false, false, false, false] rfl rfl (qat HT_.out (by kernel_rfl)) (fun _ _ _ h => h) (Or.inl ⟨by rfl, ?_⟩) ?_ ?_
             rotate_left
             ·intro w'
              go_simp
              with_reducible rfl
             rotate_left
             ·simp only [Act.put, List.setIfInBounds_toArray, List.set_cons_zero, List.set_cons_succ, i64_w, i32_w]
              rfl
             refine pure_ (i := 1) (N := some 10) (v := ?_) (a' := ?_) #[true, true, false, false, false, false, false, false, false, false, false] rfl rfl (qat HT_.out (by kernel_rfl)) (fun _ _ _ h => h) (Or.inl ⟨by rfl, ?_⟩) ?_ ?_
             rotate_left
             ·intro w'
              go_simp
              with_reducible rfl
             rotate_left
             ·simp only [Act.put, List.setIfInBounds_toArray, List.set_cons_zero, List.set_cons_succ, i64_w, i32_w]
              rfl
             refine pure_ (i := 2) (N := some 11) (v := ?_) (a' := ?_) #[true, true, true, false, false, false, false, false, false, false, false] rfl rfl (qat HT_.out (by kernel_rfl)) (fun _ _ _ h => h) (Or.inl ⟨by rfl, ?_⟩) ?_ ?_
             rotate_left
             ·intro w'
              go_simp
              with_reducible rfl
             rotate_left
             ·simp only [Act.put, List.setIfInBounds_toArray, List.set_cons_zero, List.set_cons_succ, i64_w, i32_w]
              rfl
             refine pure_ (i := 4) (N := some 13) (v := ?_) (a' := ?_) #[true, true, true, false, true, false, false, false, false, false, false] rfl rfl (qat HT_.out (by kernel_rfl)) (fun _ _ _ h => h) (Or.inl ⟨by rfl, ?_⟩) ?_ ?_
             rotate_left
             ·intro w'
              go_simp
              with_reducible rfl
             rotate_left
             ·simp only [Act.put, List.setIfInBounds_toArray, List.set_cons_zero, List.set_cons_succ, i64_w, i32_w]
              rfl
             refine pure_ (i := 5) (N := some 14) (v := ?_) (a' := ?_) #[true, true, true, false, true, true, false, false, false, false, false] rfl rfl (qat HT_.out (by kernel_rfl)) (fun _ _ _ h => h) (Or.inl ⟨by rfl, ?_⟩) ?_ ?_
             rotate_left
             ·intro w'
              go_simp
              with_reducible rfl
             rotate_left
             ·simp only [Act.put, List.setIfInBounds_toArray, List.set_cons_zero, List.set_cons_succ, i64_w, i32_w]
              rfl
             refine pure_ (i := 6) (N := some 15) (v := ?_) (a' := ?_) #[true, true, true, false, true, true, true, false, false, false, false] rfl rfl (qat HT_.out (by kernel_rfl)) (fun _ _ _ h => h) (Or.inl ⟨by rfl, ?_⟩) ?_ ?_
             rotate_left
             ·intro w'
              go_simp
              with_reducible rfl
             rotate_left
             ·simp only [Act.put, List.setIfInBounds_toArray, List.set_cons_zero, List.set_cons_succ, i64_w, i32_w]
              rfl
             refine pure_ (i := 7) (N := some 16) (v := ?_) (a' := ?_) #[true, true, true, false, true, true, true, true, false, false, false] rfl rfl (qat HT_.out (by kernel_rfl)) (fun _ _ _ h => h) (Or.inl ⟨by rfl, ?_⟩) ?_ ?_
             rotate_left
             ·intro w'
              go_simp
              with_reducible rfl
             rotate_left
             ·simp only [Act.put, List.setIfInBounds_toArray, List.set_cons_zero, List.set_cons_succ, i64_w, i32_w]
              rfl
             refine take_ (i := 3) (N := some 12) (v := ?_) (a' := ?_) #[true, true, true, true, true, true, true, true, false, false, false] rfl rfl (qbc HT_.out HW_.out (by kernel_rfl)) (fun _ _ _ h => h) (Or.inl ⟨by rfl, ?_⟩) hHeld ?_ ?_
             rotate_left
             ·rintro w' ⟨s0, s1, s2, s3⟩
              go_simp
              with_reducible rfl
             rotate_left
             ·simp only [Act.put, List.setIfInBounds_toArray, List.set_cons_zero, List.set_cons_succ, i64_w, i32_w]
              rfl
             refine take_ (i := 8) (N := some 17) (v := ?_) (a' := ?_) #[true, true, true, true, true, true, true, true, true, false, false] rfl rfl (qbc HT_.out HW_.out (by kernel_rfl)) (fun _ _ _ h => h) (Or.inl ⟨by rfl, ?_⟩) hHeld ?_ ?_
             rotate_left
             ·rintro w' ⟨s0, s1, s2, s3⟩
              go_simp
              with_reducible rfl
             rotate_left
             ·simp only [Act.put, List.setIfInBounds_toArray, List.set_cons_zero, List.set_cons_succ, i64_w, i32_w]
              rfl
             refine one_ (i := 9) (N := some 18) #[true, true, true, true, true, true, true, true, true, true, false] rfl rfl (qcj HT_.out (by kernel_rfl)) (by decide) (fun K hK => ?_)
             refine goes_ Try.func134 (by kernel_rfl) rfl #[.agg #[.int .i64 a1_0, .int .i64 a1_1], .agg #[.int .i64 ((rd_T83 l0 (ji6)).f0), .int .i64 ((rd_T83 l0 (ji6)).f1)]] (by rfl) rfl rfl (by (try simp only [List.map_toArray, List.map_cons, List.map_nil]); first | done | (simp only [hji6]; rfl) | rfl | (simp only [List.length_drop, List.length_take]; rfl)) ?_
             with_reducible refine (spec_l08Less.calls a1_0 a1_1 ((rd_T83 l0 (ji6)).f0) ((rd_T83 l0 (ji6)).f1) false _ A9.out).mono ?_
             rintro e w25 ⟨rfl, hb⟩
             have HS2_ := (hb.cell (World.block_lt_of_cell? _ _ (hHeld.2.2.1))).trans (hHeld.2.2.1)
             have HS3_ := (hb.cell (World.block_lt_of_cell? _ _ (hHeld.2.2.2))).trans (hHeld.2.2.2)
             refine ⟨_, rfl, ?_⟩
             have n0_ := qad.mk (Kd.qax (by (with_reducible repeat (first | apply Kd.qap | apply Kd.qao | apply Kd.qas)); exact HO_0.out) hb)
             have n1_ := qad.mk (qam (g := gb216) (o := .cells #[.int .i64 a1_0, .int .i64 a1_1] 83 (0, 0)) (by (with_reducible repeat (first | refine qai ?_ _ | refine qaj ?_ | refine qah ?_ _)); exact BK216.out) hb)
             have n2_ := qad.mk (Kept.below (S := (fun k_ => P0_ k_)) (by repeat (first | (with_reducible first | exact HK.out | apply Kept.alloc | apply Kept.drewN | apply Kept.drew | refine Kept.setCell ?_ (.inr GW216.out) _) | exact HK.out)) hb)
             have n3_ := qad.mk (qak (by repeat (first | (with_reducible first | exact HB.out | apply qac | apply qaa | apply qab | refine qae ?_ GE216.out) | exact HB.out)) hb)
             clear HO_0
             clear BK216
             clear HK
             clear HB
             have HO_0 := n0_
             have BK216 := n1_
             have HK := n2_
             have HB := n3_
             clear n0_ n1_ n2_ n3_
             (try clear hb)
             (try clear hb2)
             (try clear hk)
             (try clear hi)
             refine hK.out _ _ ⟨(qag BK216.out 0).trans rfl, (qag BK216.out 1).trans rfl, HS2_, HS3_⟩ (fun hHeld => ?_)
             clear hK K
             refine norm_ (a' := ?_) ?_ ?_
             rotate_left
             ·show Act.put _ (some 18) _ = _
              simp only [Act.put, List.setIfInBounds_toArray, List.set_cons_zero, List.set_cons_succ, i64_w, i32_w]
              rfl
             refine pure_ (i := 10) (N := some 19) (v := ?_) (a' := ?_) #[true, true, true, true, true, true, true, true, true, true, true] rfl rfl (qat HT_.out (by kernel_rfl)) (fun _ _ _ h => h) (Or.inl ⟨by rfl, ?_⟩) ?_ ?_
             rotate_left
             ·intro w'
              go_simp
              with_reducible rfl
             rotate_left
             ·simp only [Act.put, List.setIfInBounds_toArray, List.set_cons_zero, List.set_cons_succ, i64_w, i32_w]
              rfl
             refine done_ (qca HT_.out (by kernel_rfl)) ?_
             try go_wp2
             have n0_ := qad.mk (Kd.qas HO_0.out)
             have n1_ := qad.mk (qaj BK216.out)
             have n2_ := qad.mk (Kept.drew HK.out)
             have n3_ := qad.mk (qab HB.out)
             clear HO_0
             clear BK216
             clear HK
             clear HB
             have HO_0 := n0_
             have BK216 := n1_
             have HK := n2_
             have HB := n3_
             clear n0_ n1_ n2_ n3_
             have p219 : 0 ≤ ((ji6) : Int) := of_decide_eq_true (by first | (with_reducible assumption) | assumption)
             have q219 : (ji6) < (l0.length : Int) := of_decide_eq_true (by first | (with_reducible assumption) | assumption)
             obtain ⟨ad219, e219, hx219_0, hx219_1⟩ := at_T83 (Kd.qaw HO_0.out).2.2 (ji6) p219 q219
             obtain rfl : ad217 = ad219 := (by injection e219)
             replace p219 := eq_true p219
             replace q219 := eq_true q219
             refine qcb (n := 11) (S := fun w' => w'.cell? ⟨gb216, 0, none⟩ = some (.int .i64 a1_0) ∧ w'.cell? ⟨gb216, 1, none⟩ = some (.int .i64 a1_1) ∧ w'.cell? (ad217.add (((ji6)).toNat * 2)) = some (.int .i64 ((rd_T83 l0 (ji6)).f0)) ∧ w'.cell? ⟨(ad217.add (((ji6)).toNat * 2)).block, (ad217.add (((ji6)).toNat * 2)).off + 1, none⟩ = some (.int .i64 ((rd_T83 l0 (ji6)).f1))) (ds := []) #[false, false, false, false, false, false, false, false, false, false, false] (by kernel_rfl) rfl rfl ⟨(qag BK216.out 0).trans rfl, (qag BK216.out 1).trans rfl, hx219_0, hx219_1⟩ (fun hHeld => ?_); refine qbj spec_l08Put.tab4 spec_l08Put.bits4 (fun HT_ HW_ => ?_)
             generalize w25.drew = w26 at HO_0 BK216 HK HB hx219_0 hx219_1 hHeld ⊢
             refine pure_ (i := 0) (N := some 22) (v := ?_) (a' := ?_) #[true, false, false, false, false, false, false, false, false, false, false] rfl rfl (qat HT_.out (by kernel_rfl)) (fun _ _ _ h => h) (Or.inl ⟨by rfl, ?_⟩) ?_ ?_
             rotate_left
             ·intro w'
              go_simp
              with_reducible rfl
             rotate_left
             ·simp only [Act.put, List.setIfInBounds_toArray, List.set_cons_zero, List.set_cons_succ, i64_w, i32_w]
              rfl
             refine pure_ (i := 1) (N := some 23) (v := ?_) (a' := ?_) #[true, true, false, false, false, false, false, false, false, false, false] rfl rfl (qat HT_.out (by kernel_rfl)) (fun _ _ _ h => h) (Or.inl ⟨by rfl, ?_⟩) ?_ ?_
             rotate_left
             ·intro w'
              go_simp
              with_reducible rfl
             rotate_left
             ·simp only [Act.put, List.setIfInBounds_toArray, List.set_cons_zero, List.set_cons_succ, i64_w, i32_w]
              rfl
             refine pure_ (i := 2) (N := some 24) (v := ?_) (a' := ?_) #[true, true, true, false, false, false, false, false, false, false, false] rfl rfl (qat HT_.out (by kernel_rfl)) (fun _ _ _ h => h) (Or.inl ⟨by rfl, ?_⟩) ?_ ?_
             rotate_left
             ·intro w'
              go_simp
              with_reducible rfl
             rotate_left
             ·simp only [Act.put, List.setIfInBounds_toArray, List.set_cons_zero, List.set_cons_succ, i64_w, i32_w]
              rfl
             refine pure_ (i := 3) (N := some 25) (v := ?_) (a' := ?_) #[true, true, true, true, false, false, false, false, false, false, false] rfl rfl (qat HT_.out (by kernel_rfl)) (fun _ _ _ h => h) (Or.inl ⟨by rfl, ?_⟩) ?_ ?_
             rotate_left
             ·intro w'
              go_simp
              with_reducible rfl
             rotate_left
             ·simp only [Act.put, List.setIfInBounds_toArray, List.set_cons_zero, List.set_cons_succ, i64_w, i32_w]
              rfl
             refine pure_ (i := 4) (N := some 26) (v := ?_) (a' := ?_) #[true, true, true, true, true, false, false, false, false, false, false] rfl rfl (qat HT_.out (by kernel_rfl)) (fun _ _ _ h => h) (Or.inl ⟨by rfl, ?_⟩) ?_ ?_
             rotate_left
             ·intro w'
              go_simp
              with_reducible rfl
             rotate_left
             ·simp only [Act.put, List.setIfInBounds_toArray, List.set_cons_zero, List.set_cons_succ, i64_w, i32_w]
              rfl
             refine pure_ (i := 5) (N := some 27) (v := ?_) (a' := ?_) #[true, true, true, true, true, true, false, false, false, false, false] rfl rfl (qat HT_.out (by kernel_rfl)) (fun _ _ _ h => h) (Or.inl ⟨by rfl, ?_⟩) ?_ ?_
             rotate_left
             ·intro w'
              go_simp
              with_reducible rfl
             rotate_left
             ·simp only [Act.put, List.setIfInBounds_toArray, List.set_cons_zero, List.set_cons_succ, i64_w, i32_w]
              rfl
             refine pure_ (i := 6) (N := some 28) (v := ?_) (a' := ?_) #[true, true, true, true, true, true, true, false, false, false, false] rfl rfl (qat HT_.out (by kernel_rfl)) (fun _ _ _ h => h) (Or.inl ⟨by rfl, ?_⟩) ?_ ?_
             rotate_left
             ·intro w'
              go_simp
              with_reducible rfl
             rotate_left
             ·simp only [Act.put, List.setIfInBounds_toArray, List.set_cons_zero, List.set_cons_succ, i64_w, i32_w]
              rfl
             refine take_ (i := 7) (N := some 29) (v := ?_) (a' := ?_) #[true, true, true, true, true, true, true, true, false, false, false] rfl rfl (qbc HT_.out HW_.out (by kernel_rfl)) (fun _ _ _ h => h) (Or.inl ⟨by rfl, ?_⟩) hHeld ?_ ?_
             rotate_left
             ·rintro w' ⟨s0, s1, s2, s3⟩
              go_simp
              with_reducible rfl
             rotate_left
             ·simp only [Act.put, List.setIfInBounds_toArray, List.set_cons_zero, List.set_cons_succ, i64_w, i32_w]
              rfl
             refine take_ (i := 8) (N := some 30) (v := ?_) (a' := ?_) #[true, true, true, true, true, true, true, true, true, false, false] rfl rfl (qbc HT_.out HW_.out (by kernel_rfl)) (fun _ _ _ h => h) (Or.inl ⟨by rfl, ?_⟩) hHeld ?_ ?_
             rotate_left
             ·rintro w' ⟨s0, s1, s2, s3⟩
              go_simp
              with_reducible rfl
             rotate_left
             ·simp only [Act.put, List.setIfInBounds_toArray, List.set_cons_zero, List.set_cons_succ, i64_w, i32_w]
              rfl
             refine pure_ (i := 9) (N := some 31) (v := ?_) (a' := ?_) #[true, true, true, true, true, true, true, true, true, true, false] rfl rfl (qat HT_.out (by kernel_rfl)) (fun _ _ _ h => h) (Or.inl ⟨by rfl, ?_⟩) ?_ ?_
             rotate_left
             ·intro w'
              go_simp
              with_reducible rfl
             rotate_left
             ·simp only [Act.put, List.setIfInBounds_toArray, List.set_cons_zero, List.set_cons_succ, i64_w, i32_w]
              rfl
             refine pure_ (i := 10) (N := some 32) (v := ?_) (a' := ?_) #[true, true, true, true, true, true, true, true, true, true, true] rfl rfl (qat HT_.out (by kernel_rfl)) (fun _ _ _ h => h) (Or.inl ⟨by rfl, ?_⟩) ?_ ?_
             rotate_left
             ·intro w'
              go_simp
              with_reducible rfl
             rotate_left
             ·simp only [Act.put, List.setIfInBounds_toArray, List.set_cons_zero, List.set_cons_succ, i64_w, i32_w]
              rfl
             refine done_ (qca HT_.out (by kernel_rfl)) ?_
             try go_wp2_with (first | ((with_reducible refine qar (N := 34) rfl ?_); refine Kd.R_lit k83 _ 83 ?hg (N := 34) ?hd (xs := ([] : List (S83))) (inner := []) (ok := fun _ => True) (okp := fun _ => True) ?hr ?hp (fun _ hk => hk) trivial (Below.refl _ _) (Nat.le_refl _) (by simp) ?_; (case hd => rfl); (case hg => rfl); (case hr => first | (go_simp; done) | (go_simp; rfl)); (case hp => exact (Reps.none _ _)); intro v221 w27 ho28 hb hg_ hnew_; clear hg_ hnew_; (first | rw [← Ny220.out] at ho28 | (simp only [Int.reduceToNat] at ho28; rw [← Ny220.out] at ho28)); have n0_ := qad.mk (Kd.qbf (by (with_reducible repeat (first | apply Kd.qap | apply Kd.qao | apply Kd.qas)); exact HO_0.out) (Kd.qbk ho28) hb); have n1_ := qad.mk (Kd.qbi (Kd.qde (Kd.qbl (Kd.qdd (M := fun k_ => (P0_ k_ ∨ w.heap.size ≤ k_)) ho28 (by first | exact HK.out.1 | exact (show Kept w _ (fun k_ => P0_ k_) from by repeat (first | (with_reducible first | exact HK.out | apply Kept.alloc | apply Kept.drewN | apply Kept.drew | refine Kept.setCell ?_ (.inr GW216.out) _) | exact HK.out)).1) (fun k_ h_ => .inr h_)) (Kd.R_lt (by (with_reducible repeat (first | apply Kd.qap | apply Kd.qao | apply Kd.qas)); exact HO_0.out))) (g := gb216) (o := .cells #[.int .i64 a1_0, .int .i64 a1_1] 83 (0, 0)) (by (with_reducible repeat (first | refine qai ?_ _ | refine qaj ?_ | refine qah ?_ _)); exact BK216.out)) (qal (by repeat (first | (with_reducible first | exact HB.out | apply qac | apply qaa | apply qab | refine qae ?_ GE216.out) | exact HB.out)))); have n2_ := qad.mk (qam (g := gb216) (o := .cells #[.int .i64 a1_0, .int .i64 a1_1] 83 (0, 0)) (by (with_reducible repeat (first | refine qai ?_ _ | refine qaj ?_ | refine qah ?_ _)); exact BK216.out) hb); have n3_ := qad.mk (Kept.below (S := (fun k_ => P0_ k_)) (by repeat (first | (with_reducible first | exact HK.out | apply Kept.alloc | apply Kept.drewN | apply Kept.drew | refine Kept.setCell ?_ (.inr GW216.out) _) | exact HK.out)) hb); have n4_ := qad.mk (qak (by repeat (first | (with_reducible first | exact HB.out | apply qac | apply qaa | apply qab | refine qae ?_ GE216.out) | exact HB.out)) hb); clear HO_0; clear BK216; clear HK; clear HB; have HO_0 := n0_; have HO222 := n1_; have BK216 := n2_; have HK := n3_; have HB := n4_; clear n0_ n1_ n2_ n3_ n4_; clear hb ho28; have q29 : (x5_1 : Int) ≤ ((l0.length : Int) : Int) := of_decide_eq_true (by first | (with_reducible assumption) | assumption); obtain ⟨i029, hi029, _, hsz29, _⟩ := info_parts info83; have hroom29 : l0.length ≤ co4 := (Kd.qaw HO_0.out).2.1; have hC29 : Kd.C k83 _ (some ad217) l0.length l0 := (Kd.qaw HO_0.out).2.2; have hcut29 := qdb (P := Try.prog) 48 83 .i64 Try.underlying48 hi029 (some ad217) l0.length co4 x5_1 (of_decide_eq_true (by first | (with_reducible assumption) | assumption)) q29 hroom29; have hr29 := Kd.qcq (m := (x5_1 : Int).toNat) hC29 (by omega); have hy29 : y223.length = (x5_1 : Int).toNat := (by rw [Ny223.out, List.length_take]; omega); rw [← Ny223.out] at hr29; rw [← hy29] at hcut29; have HR226 := qad.mk hr29; have HC226 := qad.mk (show y223.length ≤ co4 from by omega); clear hr29 hC29 hroom29 hi029 hsz29; have KY29 := qad.mk hy29; clear hy29; have KL29 := qad.mk (show (x5_1 : Int).toNat ≤ l0.length from by omega); replace q29 := eq_true q29) | ((with_reducible refine qbm (b := .append) (xs := #[.tmp 34, .tmp 37]) rfl ?_); at_builtin; refine Kd.qch k83 (w0 := w0) w0.heap.size rfl (.tmp 34) (.tmp 37) 48 83 (.agg #[(.int .i64 0), (.int .i64 0)]) 16 rfl Try.underlying48 info83 rfl (by decide) (by omega) v221 y220 y223 _ _ _ (fun k_ => (P0_ k_ ∨ w.heap.size ≤ k_) ∧ some k_ ≠ (.slice (some ad217) l0.length co4 : Value).ownBlock ∧ k_ ≠ gb216) (fun _ => False) rfl rfl ?aO ?aR (fun _ _ h => h) (fun _ h => h.elim) ?aF ?aB ?aS ?aL ?_; (case aR => repeat (first | exact (by repeat (first | (with_reducible exact HR226.out) | (with_reducible first | refine Kd.qav ?_ _ | refine Kd.qau ?_ _ | refine Kd.qba ?_) | exact HR226.out)) | (with_reducible first | refine Kd.qav ?_ _ | refine Kd.qau ?_ _ | refine Kd.qba ?_))); (case aB => exact (by repeat (first | (with_reducible first | exact HB.out | apply qac | apply qaa | apply qab | refine qae ?_ GE216.out) | exact HB.out))); (case aF => exact (fun k_ hk => ⟨(.inr (Nat.le_trans (by first | exact HK.out.1 | exact (show Kept w _ (fun k_ => P0_ k_) from by repeat (first | (with_reducible first | exact HK.out | apply Kept.alloc | apply Kept.drewN | apply Kept.drew | refine Kept.setCell ?_ (.inr GW216.out) _) | exact HK.out)).1) hk)), Kd.fresh' (Kd.R_lt (by (with_reducible repeat (first | apply Kd.qap | apply Kd.qao | apply Kd.qas)); exact HO_0.out)) k_ hk, Kd.freshB (g := gb216) (o := .cells #[.int .i64 a1_0, .int .i64 a1_1] 83 (0, 0)) (by (with_reducible repeat (first | refine qai ?_ _ | refine qaj ?_ | refine qah ?_ _)); exact BK216.out) k_ hk⟩)); (case aO => exact (by (with_reducible repeat (first | apply Kd.qap | apply Kd.qao | apply Kd.qas)); exact Kd.qbe HO222.out (fun _ hk => ⟨hk.1.1.1, ⟨hk.1.2, hk.2⟩⟩))); (case aS => exact (qal (by repeat (first | (with_reducible first | exact HB.out | apply qac | apply qaa | apply qab | refine qae ?_ GE216.out) | exact HB.out)))); (case aL => have := LMc19.out; omega); intro v228 w30 ho hb hg hat; rw [← Ny227.out] at ho; have n0_ := qad.mk (Kd.qbv (ok := (fun k_ => (P0_ k_ ∨ w.heap.size ≤ k_) ∧ k_ ≠ gb216)) (by (with_reducible repeat (first | apply Kd.qap | apply Kd.qao | apply Kd.qas)); exact HO_0.out) hg hat); have n1_ := qad.mk (qbo (g := gb216) (o := .cells #[.int .i64 a1_0, .int .i64 a1_1] 83 (0, 0)) (by (with_reducible repeat (first | refine qai ?_ _ | refine qaj ?_ | refine qah ?_ _)); exact BK216.out) hg (Kd.qcr HO222.out (fun _ hk => hk.2))); have n2_ := qad.mk (hb); have n3_ := qad.mk (Kept.qcg (S := (fun k_ => P0_ k_)) hg (by repeat (first | (with_reducible first | exact HK.out | apply Kept.alloc | apply Kept.drewN | apply Kept.drew | refine Kept.setCell ?_ (.inr GW216.out) _) | exact HK.out)) (fun k_ e_ => (HO222.out.1 k_ e_).1.1.1)); have n4_ := qad.mk ((show Kd.C k83 w30 (some ad217) y223.length y223 from by rw [Ny223.out]; exact Kd.qcq (m := (x5_1 : Int).toNat) ((Kd.qaw (Kd.qbv (ok := (fun k_ => (P0_ k_ ∨ w.heap.size ≤ k_) ∧ k_ ≠ gb216)) (by (with_reducible repeat (first | apply Kd.qap | apply Kd.qao | apply Kd.qas)); exact HO_0.out) hg hat)).2.2) KL29.out)); have n5_ := qad.mk (ho); clear HO_0; clear BK216; clear HB; clear HK; clear HR226; clear HO222; have HO_0 := n0_; have BK216 := n1_; have HB := n2_; have HK := n3_; have HR226 := n4_; have HO229 := n5_; clear n0_ n1_ n2_ n3_ n4_ n5_; clear ho hb hg hat; have hcz31_0 : w30.cell? ⟨gb216, 0, none⟩ = some (.int .i64 a1_0) := (qag BK216.out 0).trans rfl; have hcz31_1 : w30.cell? ⟨gb216, 1, none⟩ = some (.int .i64 a1_1) := (qag BK216.out 1).trans rfl; have hfz31_0 := qaf BK216.out 0; have hfz31_1 := qaf BK216.out 1) | ((with_reducible refine qbm (b := .append) (xs := #[.tmp 39, .tmp 41]) rfl ?_); at_builtin; refine Kd.qcm k83 (w0 := w0) w0.heap.size rfl (.tmp 39) (.tmp 41) 48 83 (.agg #[(.int .i64 0), (.int .i64 0)]) 16 rfl Try.underlying48 info83 rfl (by decide) (by omega) v228 y227 (⟨a1_0, a1_1⟩ : S83) [.int .i64 a1_0, .int .i64 a1_1] (fun k_ => (P0_ k_ ∨ w.heap.size ≤ k_) ∧ some k_ ≠ (.slice (some ad217) l0.length co4 : Value).ownBlock ∧ k_ ≠ gb216) (fun _ => False) rfl rfl ?aP (fun _ hk => hk.elim) ?aF ?aO ?aB ?aS ?aL ?_; (case aP => exact k83_mkM _ _ _ (⟨a1_0, a1_1⟩ : S83)); (case aB => exact (by repeat (first | (with_reducible first | exact HB.out | apply qac | apply qaa | apply qab | refine qae ?_ GE216.out) | exact HB.out))); (case aF => exact (fun k_ hk => ⟨(.inr (Nat.le_trans (by first | exact HK.out.1 | exact (show Kept w _ (fun k_ => P0_ k_) from by repeat (first | (with_reducible first | exact HK.out | apply Kept.alloc | apply Kept.drewN | apply Kept.drew | refine Kept.setCell ?_ (.inr GW216.out) _) | exact HK.out)).1) hk)), Kd.fresh' (Kd.R_lt (by (with_reducible repeat (first | apply Kd.qap | apply Kd.qao | apply Kd.qas)); exact HO_0.out)) k_ hk, Kd.freshB (g := gb216) (o := .cells #[.int .i64 a1_0, .int .i64 a1_1] 83 (0, 0)) (by (with_reducible repeat (first | refine qai ?_ _ | refine qaj ?_ | refine qah ?_ _)); exact BK216.out) k_ hk⟩)); (case aO => exact (by (with_reducible repeat (first | apply Kd.qap | apply Kd.qao | apply Kd.qas)); exact HO229.out)); (case aS => exact (qal (by repeat (first | (with_reducible first | exact HB.out | apply qac | apply qaa | apply qab | refine qae ?_ GE216.out) | exact HB.out)))); (case aL => have := LMc20.out; omega); intro v231 w32 ho hb hg hat; rw [← Ny230.out] at ho; have n0_ := qad.mk (Kd.qbv (ok := (fun k_ => (P0_ k_ ∨ w.heap.size ≤ k_) ∧ k_ ≠ gb216)) (by (with_reducible repeat (first | apply Kd.qap | apply Kd.qao | apply Kd.qas)); exact HO_0.out) hg hat); have n1_ := qad.mk (qbo (g := gb216) (o := .cells #[.int .i64 a1_0, .int .i64 a1_1] 83 (0, 0)) (by (with_reducible repeat (first | refine qai ?_ _ | refine qaj ?_ | refine qah ?_ _)); exact BK216.out) hg (Kd.qcr HO229.out (fun _ hk => hk.2.2))); have n2_ := qad.mk (hb); have n3_ := qad.mk (Kept.qcg (S := (fun k_ => P0_ k_)) hg (by repeat (first | (with_reducible first | exact HK.out | apply Kept.alloc | apply Kept.drewN | apply Kept.drew | refine Kept.setCell ?_ (.inr GW216.out) _) | exact HK.out)) (fun k_ e_ => (HO229.out.1 k_ e_).1)); have n4_ := qad.mk ((show Kd.C k83 w32 (some ad217) y223.length y223 from by rw [Ny223.out]; exact Kd.qcq (m := (x5_1 : Int).toNat) ((Kd.qaw (Kd.qbv (ok := (fun k_ => (P0_ k_ ∨ w.heap.size ≤ k_) ∧ k_ ≠ gb216)) (by (with_reducible repeat (first | apply Kd.qap | apply Kd.qao | apply Kd.qas)); exact HO_0.out) hg hat)).2.2) KL29.out)); have n5_ := qad.mk (ho); clear HO_0; clear BK216; clear HB; clear HK; clear HR226; clear HO229; have HO_0 := n0_; have BK216 := n1_; have HB := n2_; have HK := n3_; have HR226 := n4_; have HO232 := n5_; clear n0_ n1_ n2_ n3_ n4_ n5_; clear ho hb hg hat; have q33 : (x5_1 : Int) ≤ ((l0.length : Int) : Int) := of_decide_eq_true (by first | (with_reducible assumption) | assumption); obtain ⟨i033, hi033, _, hsz33, _⟩ := info_parts info83; have hroom33 : l0.length ≤ co4 := (Kd.qaw HO_0.out).2.1; have hC33 : Kd.C k83 _ (some ad217) l0.length l0 := (Kd.qaw HO_0.out).2.2; have q033 : (0 : Int) ≤ (x5_1 : Int) := of_decide_eq_true (by first | (with_reducible assumption) | assumption); have hcut33 := qcw (P := Try.prog) 48 83 .i64 Try.underlying48 hi033 2 hsz33 (some ad217) l0.length co4 x5_1 q033 q33; have hr33 := Kd.qcv (m := (x5_1 : Int).toNat) (c := co4) hC33 (by omega) hroom33; obtain ⟨A33, hA33⟩ : ∃ A1, A1 = (if co4 = (x5_1 : Int).toNat then (some ad217) else ((some ad217) : Option Addr).map (·.add ((x5_1 : Int).toNat * 2))) := ⟨_, rfl⟩; obtain ⟨c33, hc33⟩ : ∃ c1, c1 = co4 - (x5_1 : Int).toNat := ⟨_, rfl⟩; have hy33 : y233.length = l0.length - (x5_1 : Int).toNat := (by rw [Ny233.out, List.length_drop] <;> omega); rw [show (l0).drop (x5_1 : Int).toNat = y233 from Ny233.out.symm] at hr33; replace hr33 : Kd.C k83 _ A33 y233.length y233 := (by rw [hA33]; exact hr33); rw [← hy33, ← hA33, ← hc33] at hcut33; have HR236 := qad.mk hr33; have HC236 := qad.mk (show y233.length ≤ c33 from by rw [hy33, hc33]; exact Nat.sub_le_sub_right hroom33 _); clear hr33 hC33 hroom33 hi033 hsz33 hc33; have KY33 := qad.mk hy33; have KA33 := qad.mk hA33; clear hy33 hA33; have KL33 := qad.mk (show (x5_1 : Int).toNat ≤ l0.length from by omega); replace q33 := eq_true q33) | ((with_reducible refine qbm (b := .append) (xs := #[.tmp 43, .tmp 46]) rfl ?_); at_builtin; refine Kd.qch k83 (w0 := w0) w0.heap.size rfl (.tmp 43) (.tmp 46) 48 83 (.agg #[(.int .i64 0), (.int .i64 0)]) 16 rfl Try.underlying48 info83 rfl (by decide) (by omega) v231 y230 y233 _ _ _ (fun k_ => (P0_ k_ ∨ w.heap.size ≤ k_) ∧ some k_ ≠ (.slice (some ad217) l0.length co4 : Value).ownBlock ∧ k_ ≠ gb216) (fun _ => False) rfl rfl ?aO ?aR (fun _ _ h => h) (fun _ h => h.elim) ?aF ?aB ?aS ?aL ?_; (case aR => repeat (first | exact (by repeat (first | (with_reducible exact HR236.out) | (with_reducible first | refine Kd.qav ?_ _ | refine Kd.qau ?_ _ | refine Kd.qba ?_) | exact HR236.out)) | (with_reducible first | refine Kd.qav ?_ _ | refine Kd.qau ?_ _ | refine Kd.qba ?_))); (case aB => exact (by repeat (first | (with_reducible first | exact HB.out | apply qac | apply qaa | apply qab | refine qae ?_ GE216.out) | exact HB.out))); (case aF => exact (fun k_ hk => ⟨(.inr (Nat.le_trans (by first | exact HK.out.1 | exact (show Kept w _ (fun k_ => P0_ k_) from by repeat (first | (with_reducible first | exact HK.out | apply Kept.alloc | apply Kept.drewN | apply Kept.drew | refine Kept.setCell ?_ (.inr GW216.out) _) | exact HK.out)).1) hk)), Kd.fresh' (Kd.R_lt (by (with_reducible repeat (first | apply Kd.qap | apply Kd.qao | apply Kd.qas)); exact HO_0.out)) k_ hk, Kd.freshB (g := gb216) (o := .cells #[.int .i64 a1_0, .int .i64 a1_1] 83 (0, 0)) (by (with_reducible repeat (first | refine qai ?_ _ | refine qaj ?_ | refine qah ?_ _)); exact BK216.out) k_ hk⟩)); (case aO => exact (by (with_reducible repeat (first | apply Kd.qap | apply Kd.qao | apply Kd.qas)); exact HO232.out)); (case aS => exact (qal (by repeat (first | (with_reducible first | exact HB.out | apply qac | apply qaa | apply qab | refine qae ?_ GE216.out) | exact HB.out)))); (case aL => have := LMc23.out; omega); intro v238 w34 ho hb hg hat; rw [← Ny237.out] at ho; have n0_ := qad.mk (Kd.qbv (ok := (fun k_ => (P0_ k_ ∨ w.heap.size ≤ k_) ∧ k_ ≠ gb216)) (by (with_reducible repeat (first | apply Kd.qap | apply Kd.qao | apply Kd.qas)); exact HO_0.out) hg hat); have n1_ := qad.mk (qbo (g := gb216) (o := .cells #[.int .i64 a1_0, .int .i64 a1_1] 83 (0, 0)) (by (with_reducible repeat (first | refine qai ?_ _ | refine qaj ?_ | refine qah ?_ _)); exact BK216.out) hg (Kd.qcr HO232.out (fun _ hk => hk.2.2))); have n2_ := qad.mk (hb); have n3_ := qad.mk (Kept.qcg (S := (fun k_ => P0_ k_)) hg (by repeat (first | (with_reducible first | exact HK.out | apply Kept.alloc | apply Kept.drewN | apply Kept.drew | refine Kept.setCell ?_ (.inr GW216.out) _) | exact HK.out)) (fun k_ e_ => (HO232.out.1 k_ e_).1)); have n4_ := qad.mk ((show Kd.C k83 w34 (some ad217) y223.length y223 from by rw [Ny223.out]; exact Kd.qcq (m := (x5_1 : Int).toNat) ((Kd.qaw (Kd.qbv (ok := (fun k_ => (P0_ k_ ∨ w.heap.size ≤ k_) ∧ k_ ≠ gb216)) (by (with_reducible repeat (first | apply Kd.qap | apply Kd.qao | apply Kd.qas)); exact HO_0.out) hg hat)).2.2) KL29.out)); have n5_ := qad.mk ((show Kd.C k83 w34 A33 y233.length y233 from by rw [Ny233.out, KA33.out]; exact Kd.qcv (m := (x5_1 : Int).toNat) (c := co4) ((Kd.qaw (Kd.qbv (ok := (fun k_ => (P0_ k_ ∨ w.heap.size ≤ k_) ∧ k_ ≠ gb216)) (by (with_reducible repeat (first | apply Kd.qap | apply Kd.qao | apply Kd.qas)); exact HO_0.out) hg hat)).2.2) KL33.out ((Kd.qaw (Kd.qbv (ok := (fun k_ => (P0_ k_ ∨ w.heap.size ≤ k_) ∧ k_ ≠ gb216)) (by (with_reducible repeat (first | apply Kd.qap | apply Kd.qao | apply Kd.qas)); exact HO_0.out) hg hat)).2.1))); have n6_ := qad.mk (ho); clear HO_0; clear BK216; clear HB; clear HK; clear HR226; clear HR236; clear HO232; have HO_0 := n0_; have BK216 := n1_; have HB := n2_; have HK := n3_; have HR226 := n4_; have HR236 := n5_; have HO239 := n6_; clear n0_ n1_ n2_ n3_ n4_ n5_ n6_; clear ho hb hg hat))
             go_ret
             exact ⟨_, by first | rfl | (simp [errW_none, errW_some] <;> rfl) | (simp only [← hji6]; first | rfl | (simp [errW_none, errW_some] <;> rfl)) | (simp [*, errW_none, errW_some] <;> rfl), by (with_reducible repeat (first | apply Kd.qap | apply Kd.qao | apply Kd.qas)); exact Kd.qbe HO239.out (fun _ hk => hk.1), by repeat (first | (with_reducible first | exact HB.out | apply qac | apply qaa | apply qab | refine qae ?_ GE216.out) | exact HB.out), by repeat (first | (with_reducible first | exact HK.out | apply Kept.alloc | apply Kept.drewN | apply Kept.drew | refine Kept.setCell ?_ (.inr GW216.out) _) | exact HK.out)⟩
            ·rw [if_neg c23] at H
             exact absurd H (by simp)
           ·rw [if_neg c20] at H
            exact absurd H (by simp)
          ·rw [if_neg c19] at H
           exact absurd H (by simp)
         ·rw [if_neg c18] at H
          exact absurd H (by simp)
        ·rw [if_neg c17] at H
         exact absurd H (by simp)
     ·rw [if_neg c8] at H
      exact absurd H (by simp)
    ·rw [if_neg c7] at H
     exact absurd H (by simp)
   ·rw [if_neg c5] at H
    have c5b0 : decide (0 < x5_1) = false := decide_eq_false c5
    clear c5
    obtain ⟨y240, hy240⟩ : ∃ y_ : List (S83), y_ = (([] : List (S83))) := ⟨_, rfl⟩
    replace H : (if 0 ≤ x5_1 then (if x5_1 ≤ (l0.length : Int) then ((some (l0.take (x5_1 : Int).toNat : List (S83))).bind fun y243 => (if y240.length + y243.length < 8796093022208 then ((some (y240 ++ y243 : List (S83))).bind fun y247 => (if y247.length < 8796093022208 then ((some (y247 ++ [(⟨a1_0, a1_1⟩ : S83)] : List (S83))).bind fun y250 => ((some (l0.drop (x5_1 : Int).toNat : List (S83))).bind fun y253 => (if y250.length + y253.length < 8796093022208 then (some (y250 ++ y253)) else (none)))) else (none))) else (none))) else (none)) else (none)) = some r := by first | (rw [hy240]; with_reducible exact H) | (have H2_ := (Option.bind_some _ _).symm.trans H; rw [hy240]; with_reducible exact H2_) | (have H2_ := (Option.bind_some _ _).symm.trans H; with_reducible exact H2_) | with_reducible exact H | (rw [hy240]; exact H) | exact H
    have Ny240 := qad.mk hy240
    clear hy240
    by_cases c35 : 0 ≤ x5_1
    ·rw [if_pos c35] at H
     have c35b0 := eq_true c35
     have c35b1 : decide (0 ≤ x5_1) = true := decide_eq_true c35
     clear c35
     by_cases c36 : x5_1 ≤ (l0.length : Int)
     ·rw [if_pos c36] at H
      have c36b0 := eq_true c36
      have c36b1 : decide (x5_1 ≤ (l0.length : Int)) = true := decide_eq_true c36
      clear c36
      obtain ⟨y243, hy243⟩ : ∃ y_ : List (S83), y_ = (l0.take (x5_1 : Int).toNat) := ⟨_, rfl⟩
      replace H : (if y240.length + y243.length < 8796093022208 then ((some (y240 ++ y243 : List (S83))).bind fun y247 => (if y247.length < 8796093022208 then ((some (y247 ++ [(⟨a1_0, a1_1⟩ : S83)] : List (S83))).bind fun y250 => ((some (l0.drop (x5_1 : Int).toNat : List (S83))).bind fun y253 => (if y250.length + y253.length < 8796093022208 then (some (y250 ++ y253)) else (none)))) else (none))) else (none)) = some r := by first | (rw [hy243]; with_reducible exact H) | (have H2_ := (Option.bind_some _ _).symm.trans H; rw [hy243]; with_reducible exact H2_) | (have H2_ := (Option.bind_some _ _).symm.trans H; with_reducible exact H2_) | with_reducible exact H | (rw [hy243]; exact H) | exact H
      have Ny243 := qad.mk hy243
      clear hy243
      by_cases c37 : y240.length + y243.length < 8796093022208
      ·rw [if_pos c37] at H
       have LMc37 := qad.mk c37
       clear c37
       obtain ⟨y247, hy247⟩ : ∃ y_ : List (S83), y_ = (y240 ++ y243) := ⟨_, rfl⟩
       replace H : (if y247.length < 8796093022208 then ((some (y247 ++ [(⟨a1_0, a1_1⟩ : S83)] : List (S83))).bind fun y250 => ((some (l0.drop (x5_1 : Int).toNat : List (S83))).bind fun y253 => (if y250.length + y253.length < 8796093022208 then (some (y250 ++ y253)) else (none)))) else (none)) = some r := by first | (rw [hy247]; with_reducible exact H) | (have H2_ := (Option.bind_some _ _).symm.trans H; rw [hy247]; with_reducible exact H2_) | (have H2_ := (Option.bind_some _ _).symm.trans H; with_reducible exact H2_) | with_reducible exact H | (rw [hy247]; exact H) | exact H
       have Ny247 := qad.mk hy247
       clear hy247
       by_cases c38 : y247.length < 8796093022208
       ·rw [if_pos c38] at H
        have LMc38 := qad.mk c38
        clear c38
        obtain ⟨y250, hy250⟩ : ∃ y_ : List (S83), y_ = (y247 ++ [(⟨a1_0, a1_1⟩ : S83)]) := ⟨_, rfl⟩
        replace H : ((some (l0.drop (x5_1 : Int).toNat : List (S83))).bind fun y253 => (if y250.length + y253.length < 8796093022208 then (some (y250 ++ y253)) else (none))) = some r := by first | (rw [hy250]; with_reducible exact H) | (have H2_ := (Option.bind_some _ _).symm.trans H; rw [hy250]; with_reducible exact H2_) | (have H2_ := (Option.bind_some _ _).symm.trans H; with_reducible exact H2_) | with_reducible exact H | (rw [hy250]; exact H) | exact H
        have Ny250 := qad.mk hy250
        clear hy250
        have c39b0 := eq_true (of_decide_eq_true (by first | (with_reducible assumption) | assumption) : 0 ≤ x5_1)
        have c40b0 := eq_true (of_decide_eq_true (by first | (with_reducible assumption) | assumption) : x5_1 ≤ (l0.length : Int))
        obtain ⟨y253, hy253⟩ : ∃ y_ : List (S83), y_ = (l0.drop (x5_1 : Int).toNat) := ⟨_, rfl⟩
        replace H : (if y250.length + y253.length < 8796093022208 then (some (y250 ++ y253)) else (none)) = some r := by first | (rw [hy253]; with_reducible exact H) | (have H2_ := (Option.bind_some _ _).symm.trans H; rw [hy253]; with_reducible exact H2_) | (have H2_ := (Option.bind_some _ _).symm.trans H; with_reducible exact H2_) | with_reducible exact H | (rw [hy253]; exact H) | exact H
        have Ny253 := qad.mk hy253
        clear hy253
        by_cases c41 : y250.length + y253.length < 8796093022208
        ·rw [if_pos c41] at H
         have LMc41 := qad.mk c41
         clear c41
         obtain ⟨y257, hy257⟩ : ∃ y_ : List (S83), y_ = (y250 ++ y253) := ⟨_, rfl⟩
         replace H : (some y257) = some r := by first | (rw [hy257]; with_reducible exact H) | (have H2_ := (Option.bind_some _ _).symm.trans H; rw [hy257]; with_reducible exact H2_) | (have H2_ := (Option.bind_some _ _).symm.trans H; with_reducible exact H2_) | with_reducible exact H | (rw [hy257]; exact H) | exact H
         have Ny257 := qad.mk hy257
         clear hy257
         obtain rfl := Option.some.inj H
         try go_wp2
         have n0_ := qad.mk (Kd.qas HO_0.out)
         have n1_ := qad.mk (qaj BK216.out)
         have n2_ := qad.mk (Kept.drew HK.out)
         have n3_ := qad.mk (qab HB.out)
         clear HO_0
         clear BK216
         clear HK
         clear HB
         have HO_0 := n0_
         have BK216 := n1_
         have HK := n2_
         have HB := n3_
         clear n0_ n1_ n2_ n3_
         refine qcb (n := 11) (S := fun w' => True) (ds := []) #[false, false, false, false, false, false, false, false, false, false, false] (by kernel_rfl) rfl rfl trivial (fun hHeld => ?_); refine qbj spec_l08Put.tab2 spec_l08Put.bits2 (fun HT_ HW_ => ?_)
         generalize wr.drew = w42 at HO_0 BK216 HK HB hHeld ⊢
         refine pure_ (i := 0) (N := some 9) (v := ?_) (a' := ?_) #[true, false, false, false, false, false, false, false, false, false, false] rfl rfl (qat HT_.out (by kernel_rfl)) (fun _ _ _ h => h) (Or.inl ⟨by rfl, ?_⟩) ?_ ?_
         rotate_left
         ·intro w'
          go_simp
          with_reducible rfl
         rotate_left
         ·simp only [Act.put, List.setIfInBounds_toArray, List.set_cons_zero, List.set_cons_succ, i64_w, i32_w]
          rfl
         refine pure_ (i := 1) (N := some 10) (v := ?_) (a' := ?_) #[true, true, false, false, false, false, false, false, false, false, false] rfl rfl (qat HT_.out (by kernel_rfl)) (fun _ _ _ h => h) (Or.inl ⟨by rfl, ?_⟩) ?_ ?_
         rotate_left
         ·intro w'
          go_simp
          with_reducible rfl
         rotate_left
         ·simp only [Act.put, List.setIfInBounds_toArray, List.set_cons_zero, List.set_cons_succ, i64_w, i32_w]
          rfl
         refine pure_ (i := 2) (N := some 11) (v := ?_) (a' := ?_) #[true, true, true, false, false, false, false, false, false, false, false] rfl rfl (qat HT_.out (by kernel_rfl)) (fun _ _ _ h => h) (Or.inl ⟨by rfl, ?_⟩) ?_ ?_
         rotate_left
         ·intro w'
          go_simp
          with_reducible rfl
         rotate_left
         ·simp only [Act.put, List.setIfInBounds_toArray, List.set_cons_zero, List.set_cons_succ, i64_w, i32_w]
          rfl
         refine pure_ (i := 3) (N := some 12) (v := undef) (a' := ?_) #[true, true, true, true, false, false, false, false, false, false, false] rfl rfl (qat HT_.out (by kernel_rfl)) (fun _ _ _ h => h) (Or.inr ⟨by rfl, rfl⟩) ?_ ?_
         rotate_left
         ·simp only [Act.put, List.setIfInBounds_toArray, List.set_cons_zero, List.set_cons_succ, i64_w, i32_w]
          rfl
         refine pure_ (i := 4) (N := some 13) (v := undef) (a' := ?_) #[true, true, true, true, true, false, false, false, false, false, false] rfl rfl (qat HT_.out (by kernel_rfl)) (fun _ _ _ h => h) (Or.inr ⟨by rfl, rfl⟩) ?_ ?_
         rotate_left
         ·simp only [Act.put, List.setIfInBounds_toArray, List.set_cons_zero, List.set_cons_succ, i64_w, i32_w]
          rfl
         refine pure_ (i := 5) (N := some 14) (v := undef) (a' := ?_) #[true, true, true, true, true, true, false, false, false, false, false] rfl rfl (qat HT_.out (by kernel_rfl)) (fun _ _ _ h => h) (Or.inr ⟨by rfl, rfl⟩) ?_ ?_
         rotate_left
         ·simp only [Act.put, List.setIfInBounds_toArray, List.set_cons_zero, List.set_cons_succ, i64_w, i32_w]
          rfl
         refine pure_ (i := 6) (N := some 15) (v := undef) (a' := ?_) #[true, true, true, true, true, true, true, false, false, false, false] rfl rfl (qat HT_.out (by kernel_rfl)) (fun _ _ _ h => h) (Or.inr ⟨by rfl, rfl⟩) ?_ ?_
         rotate_left
         ·simp only [Act.put, List.setIfInBounds_toArray, List.set_cons_zero, List.set_cons_succ, i64_w, i32_w]
          rfl
         refine pure_ (i := 7) (N := some 16) (v := undef) (a' := ?_) #[true, true, true, true, true, true, true, true, false, false, false] rfl rfl (qat HT_.out (by kernel_rfl)) (fun _ _ _ h => h) (Or.inr ⟨by rfl, rfl⟩) ?_ ?_
         rotate_left
         ·simp only [Act.put, List.setIfInBounds_toArray, List.set_cons_zero, List.set_cons_succ, i64_w, i32_w]
          rfl
         refine pure_ (i := 8) (N := some 17) (v := undef) (a' := ?_) #[true, true, true, true, true, true, true, true, true, false, false] rfl rfl (qat HT_.out (by kernel_rfl)) (fun _ _ _ h => h) (Or.inr ⟨by rfl, rfl⟩) ?_ ?_
         rotate_left
         ·simp only [Act.put, List.setIfInBounds_toArray, List.set_cons_zero, List.set_cons_succ, i64_w, i32_w]
          rfl
         refine pure_ (i := 9) (N := some 18) (v := undef) (a' := ?_) #[true, true, true, true, true, true, true, true, true, true, false] rfl rfl (qat HT_.out (by kernel_rfl)) (fun _ _ _ h => h) (Or.inr ⟨by rfl, rfl⟩) ?_ ?_
         rotate_left
         ·simp only [Act.put, List.setIfInBounds_toArray, List.set_cons_zero, List.set_cons_succ, i64_w, i32_w]
          rfl
         refine pure_ (i := 10) (N := some 19) (v := ?_) (a' := ?_) #[true, true, true, true, true, true, true, true, true, true, true] rfl rfl (qat HT_.out (by kernel_rfl)) (fun _ _ _ h => h) (Or.inl ⟨by rfl, ?_⟩) ?_ ?_
         rotate_left
         ·intro w'
          go_simp
          with_reducible rfl
         rotate_left
         ·simp only [Act.put, List.setIfInBounds_toArray, List.set_cons_zero, List.set_cons_succ, i64_w, i32_w]
          rfl
         refine done_ (qca HT_.out (by kernel_rfl)) ?_
         try go_wp2
         have n0_ := qad.mk (Kd.qas HO_0.out)
         have n1_ := qad.mk (qaj BK216.out)
         have n2_ := qad.mk (Kept.drew HK.out)
         have n3_ := qad.mk (qab HB.out)
         clear HO_0
         clear BK216
         clear HK
         clear HB
         have HO_0 := n0_
         have BK216 := n1_
         have HK := n2_
         have HB := n3_
         clear n0_ n1_ n2_ n3_
         refine qcb (n := 11) (S := fun w' => True) (ds := []) #[false, false, false, false, false, false, false, false, false, false, false] (by kernel_rfl) rfl rfl trivial (fun hHeld => ?_); refine qbj spec_l08Put.tab4 spec_l08Put.bits4 (fun HT_ HW_ => ?_)
         generalize w42.drew = w43 at HO_0 BK216 HK HB hHeld ⊢
         refine pure_ (i := 0) (N := some 22) (v := ?_) (a' := ?_) #[true, false, false, false, false, false, false, false, false, false, false] rfl rfl (qat HT_.out (by kernel_rfl)) (fun _ _ _ h => h) (Or.inl ⟨by rfl, ?_⟩) ?_ ?_
         rotate_left
         ·intro w'
          go_simp
          with_reducible rfl
         rotate_left
         ·simp only [Act.put, List.setIfInBounds_toArray, List.set_cons_zero, List.set_cons_succ, i64_w, i32_w]
          rfl
         refine pure_ (i := 1) (N := some 23) (v := ?_) (a' := ?_) #[true, true, false, false, false, false, false, false, false, false, false] rfl rfl (qat HT_.out (by kernel_rfl)) (fun _ _ _ h => h) (Or.inl ⟨by rfl, ?_⟩) ?_ ?_
         rotate_left
         ·intro w'
          go_simp
          with_reducible rfl
         rotate_left
         ·simp only [Act.put, List.setIfInBounds_toArray, List.set_cons_zero, List.set_cons_succ, i64_w, i32_w]
          rfl
         refine pure_ (i := 2) (N := some 24) (v := ?_) (a' := ?_) #[true, true, true, false, false, false, false, false, false, false, false] rfl rfl (qat HT_.out (by kernel_rfl)) (fun _ _ _ h => h) (Or.inl ⟨by rfl, ?_⟩) ?_ ?_
         rotate_left
         ·intro w'
          go_simp
          with_reducible rfl
         rotate_left
         ·simp only [Act.put, List.setIfInBounds_toArray, List.set_cons_zero, List.set_cons_succ, i64_w, i32_w]
          rfl
         refine pure_ (i := 3) (N := some 25) (v := undef) (a' := ?_) #[true, true, true, true, false, false, false, false, false, false, false] rfl rfl (qat HT_.out (by kernel_rfl)) (fun _ _ _ h => h) (Or.inr ⟨by rfl, rfl⟩) ?_ ?_
         rotate_left
         ·simp only [Act.put, List.setIfInBounds_toArray, List.set_cons_zero, List.set_cons_succ, i64_w, i32_w]
          rfl
         refine pure_ (i := 4) (N := some 26) (v := undef) (a' := ?_) #[true, true, true, true, true, false, false, false, false, false, false] rfl rfl (qat HT_.out (by kernel_rfl)) (fun _ _ _ h => h) (Or.inr ⟨by rfl, rfl⟩) ?_ ?_
         rotate_left
         ·simp only [Act.put, List.setIfInBounds_toArray, List.set_cons_zero, List.set_cons_succ, i64_w, i32_w]
          rfl
         refine pure_ (i := 5) (N := some 27) (v := undef) (a' := ?_) #[true, true, true, true, true, true, false, false, false, false, false] rfl rfl (qat HT_.out (by kernel_rfl)) (fun _ _ _ h => h) (Or.inr ⟨by rfl, rfl⟩) ?_ ?_
         rotate_left
         ·simp only [Act.put, List.setIfInBounds_toArray, List.set_cons_zero, List.set_cons_succ, i64_w, i32_w]
          rfl
         refine pure_ (i := 6) (N := some 28) (v := undef) (a' := ?_) #[true, true, true, true, true, true, true, false, false, false, false] rfl rfl (qat HT_.out (by kernel_rfl)) (fun _ _ _ h => h) (Or.inr ⟨by rfl, rfl⟩) ?_ ?_
         rotate_left
         ·simp only [Act.put, List.setIfInBounds_toArray, List.set_cons_zero, List.set_cons_succ, i64_w, i32_w]
          rfl
         refine pure_ (i := 7) (N := some 29) (v := undef) (a' := ?_) #[true, true, true, true, true, true, true, true, false, false, false] rfl rfl (qat HT_.out (by kernel_rfl)) (fun _ _ _ h => h) (Or.inr ⟨by rfl, rfl⟩) ?_ ?_
         rotate_left
         ·simp only [Act.put, List.setIfInBounds_toArray, List.set_cons_zero, List.set_cons_succ, i64_w, i32_w]
          rfl
         refine pure_ (i := 8) (N := some 30) (v := undef) (a' := ?_) #[true, true, true, true, true, true, true, true, true, false, false] rfl rfl (qat HT_.out (by kernel_rfl)) (fun _ _ _ h => h) (Or.inr ⟨by rfl, rfl⟩) ?_ ?_
         rotate_left
         ·simp only [Act.put, List.setIfInBounds_toArray, List.set_cons_zero, List.set_cons_succ, i64_w, i32_w]
          rfl
         refine pure_ (i := 9) (N := some 31) (v := undef) (a' := ?_) #[true, true, true, true, true, true, true, true, true, true, false] rfl rfl (qat HT_.out (by kernel_rfl)) (fun _ _ _ h => h) (Or.inr ⟨by rfl, rfl⟩) ?_ ?_
         rotate_left
         ·simp only [Act.put, List.setIfInBounds_toArray, List.set_cons_zero, List.set_cons_succ, i64_w, i32_w]
          rfl
         refine pure_ (i := 10) (N := some 32) (v := ?_) (a' := ?_) #[true, true, true, true, true, true, true, true, true, true, true] rfl rfl (qat HT_.out (by kernel_rfl)) (fun _ _ _ h => h) (Or.inl ⟨by rfl, ?_⟩) ?_ ?_
         rotate_left
         ·intro w'
          go_simp
          with_reducible rfl
         rotate_left
         ·simp only [Act.put, List.setIfInBounds_toArray, List.set_cons_zero, List.set_cons_succ, i64_w, i32_w]
          rfl
         refine done_ (qca HT_.out (by kernel_rfl)) ?_
         try go_wp2_with (first | ((with_reducible refine qar (N := 34) rfl ?_); refine Kd.R_lit k83 _ 83 ?hg (N := 34) ?hd (xs := ([] : List (S83))) (inner := []) (ok := fun _ => True) (okp := fun _ => True) ?hr ?hp (fun _ hk => hk) trivial (Below.refl _ _) (Nat.le_refl _) (by simp) ?_; (case hd => rfl); (case hg => rfl); (case hr => first | (go_simp; done) | (go_simp; rfl)); (case hp => exact (Reps.none _ _)); intro v241 w44 ho45 hb hg_ hnew_; clear hg_ hnew_; (first | rw [← Ny240.out] at ho45 | (simp only [Int.reduceToNat] at ho45; rw [← Ny240.out] at ho45)); have n0_ := qad.mk (Kd.qbf (by (with_reducible repeat (first | apply Kd.qap | apply Kd.qao | apply Kd.qas)); exact HO_0.out) (Kd.qbk ho45) hb); have n1_ := qad.mk (Kd.qbi (Kd.qde (Kd.qbl (Kd.qdd (M := fun k_ => (P0_ k_ ∨ w.heap.size ≤ k_)) ho45 (by first | exact HK.out.1 | exact (show Kept w _ (fun k_ => P0_ k_) from by repeat (first | (with_reducible first | exact HK.out | apply Kept.alloc | apply Kept.drewN | apply Kept.drew | refine Kept.setCell ?_ (.inr GW216.out) _) | exact HK.out)).1) (fun k_ h_ => .inr h_)) (Kd.R_lt (by (with_reducible repeat (first | apply Kd.qap | apply Kd.qao | apply Kd.qas)); exact HO_0.out))) (g := gb216) (o := .cells #[.int .i64 a1_0, .int .i64 a1_1] 83 (0, 0)) (by (with_reducible repeat (first | refine qai ?_ _ | refine qaj ?_ | refine qah ?_ _)); exact BK216.out)) (qal (by repeat (first | (with_reducible first | exact HB.out | apply qac | apply qaa | apply qab | refine qae ?_ GE216.out) | exact HB.out)))); have n2_ := qad.mk (qam (g := gb216) (o := .cells #[.int .i64 a1_0, .int .i64 a1_1] 83 (0, 0)) (by (with_reducible repeat (first | refine qai ?_ _ | refine qaj ?_ | refine qah ?_ _)); exact BK216.out) hb); have n3_ := qad.mk (Kept.below (S := (fun k_ => P0_ k_)) (by repeat (first | (with_reducible first | exact HK.out | apply Kept.alloc | apply Kept.drewN | apply Kept.drew | refine Kept.setCell ?_ (.inr GW216.out) _) | exact HK.out)) hb); have n4_ := qad.mk (qak (by repeat (first | (with_reducible first | exact HB.out | apply qac | apply qaa | apply qab | refine qae ?_ GE216.out) | exact HB.out)) hb); clear HO_0; clear BK216; clear HK; clear HB; have HO_0 := n0_; have HO242 := n1_; have BK216 := n2_; have HK := n3_; have HB := n4_; clear n0_ n1_ n2_ n3_ n4_; clear hb ho45; have q46 : (x5_1 : Int) ≤ ((l0.length : Int) : Int) := of_decide_eq_true (by first | (with_reducible assumption) | assumption); obtain ⟨i046, hi046, _, hsz46, _⟩ := info_parts info83; have hroom46 : l0.length ≤ co4 := (Kd.qaw HO_0.out).2.1; have hC46 : Kd.C k83 _ Ao4 l0.length l0 := (Kd.qaw HO_0.out).2.2; have hcut46 := qdb (P := Try.prog) 48 83 .i64 Try.underlying48 hi046 Ao4 l0.length co4 x5_1 (of_decide_eq_true (by first | (with_reducible assumption) | assumption)) q46 hroom46; have hr46 := Kd.qcq (m := (x5_1 : Int).toNat) hC46 (by omega); have hy46 : y243.length = (x5_1 : Int).toNat := (by rw [Ny243.out, List.length_take]; omega); rw [← Ny243.out] at hr46; rw [← hy46] at hcut46; have HR246 := qad.mk hr46; have HC246 := qad.mk (show y243.length ≤ co4 from by omega); clear hr46 hC46 hroom46 hi046 hsz46; have KY46 := qad.mk hy46; clear hy46; have KL46 := qad.mk (show (x5_1 : Int).toNat ≤ l0.length from by omega); replace q46 := eq_true q46) | ((with_reducible refine qbm (b := .append) (xs := #[.tmp 34, .tmp 37]) rfl ?_); at_builtin; refine Kd.qch k83 (w0 := w0) w0.heap.size rfl (.tmp 34) (.tmp 37) 48 83 (.agg #[(.int .i64 0), (.int .i64 0)]) 16 rfl Try.underlying48 info83 rfl (by decide) (by omega) v241 y240 y243 _ _ _ (fun k_ => (P0_ k_ ∨ w.heap.size ≤ k_) ∧ some k_ ≠ (.slice Ao4 l0.length co4 : Value).ownBlock ∧ k_ ≠ gb216) (fun _ => False) rfl rfl ?aO ?aR (fun _ _ h => h) (fun _ h => h.elim) ?aF ?aB ?aS ?aL ?_; (case aR => repeat (first | exact (by repeat (first | (with_reducible exact HR246.out) | (with_reducible first | refine Kd.qav ?_ _ | refine Kd.qau ?_ _ | refine Kd.qba ?_) | exact HR246.out)) | (with_reducible first | refine Kd.qav ?_ _ | refine Kd.qau ?_ _ | refine Kd.qba ?_))); (case aB => exact (by repeat (first | (with_reducible first | exact HB.out | apply qac | apply qaa | apply qab | refine qae ?_ GE216.out) | exact HB.out))); (case aF => exact (fun k_ hk => ⟨(.inr (Nat.le_trans (by first | exact HK.out.1 | exact (show Kept w _ (fun k_ => P0_ k_) from by repeat (first | (with_reducible first | exact HK.out | apply Kept.alloc | apply Kept.drewN | apply Kept.drew | refine Kept.setCell ?_ (.inr GW216.out) _) | exact HK.out)).1) hk)), Kd.fresh' (Kd.R_lt (by (with_reducible repeat (first | apply Kd.qap | apply Kd.qao | apply Kd.qas)); exact HO_0.out)) k_ hk, Kd.freshB (g := gb216) (o := .cells #[.int .i64 a1_0, .int .i64 a1_1] 83 (0, 0)) (by (with_reducible repeat (first | refine qai ?_ _ | refine qaj ?_ | refine qah ?_ _)); exact BK216.out) k_ hk⟩)); (case aO => exact (by (with_reducible repeat (first | apply Kd.qap | apply Kd.qao | apply Kd.qas)); exact Kd.qbe HO242.out (fun _ hk => ⟨hk.1.1.1, ⟨hk.1.2, hk.2⟩⟩))); (case aS => exact (qal (by repeat (first | (with_reducible first | exact HB.out | apply qac | apply qaa | apply qab | refine qae ?_ GE216.out) | exact HB.out)))); (case aL => have := LMc37.out; omega); intro v248 w47 ho hb hg hat; rw [← Ny247.out] at ho; have n0_ := qad.mk (Kd.qbv (ok := (fun k_ => (P0_ k_ ∨ w.heap.size ≤ k_) ∧ k_ ≠ gb216)) (by (with_reducible repeat (first | apply Kd.qap | apply Kd.qao | apply Kd.qas)); exact HO_0.out) hg hat); have n1_ := qad.mk (qbo (g := gb216) (o := .cells #[.int .i64 a1_0, .int .i64 a1_1] 83 (0, 0)) (by (with_reducible repeat (first | refine qai ?_ _ | refine qaj ?_ | refine qah ?_ _)); exact BK216.out) hg (Kd.qcr HO242.out (fun _ hk => hk.2))); have n2_ := qad.mk (hb); have n3_ := qad.mk (Kept.qcg (S := (fun k_ => P0_ k_)) hg (by repeat (first | (with_reducible first | exact HK.out | apply Kept.alloc | apply Kept.drewN | apply Kept.drew | refine Kept.setCell ?_ (.inr GW216.out) _) | exact HK.out)) (fun k_ e_ => (HO242.out.1 k_ e_).1.1.1)); have n4_ := qad.mk ((show Kd.C k83 w47 Ao4 y243.length y243 from by rw [Ny243.out]; exact Kd.qcq (m := (x5_1 : Int).toNat) ((Kd.qaw (Kd.qbv (ok := (fun k_ => (P0_ k_ ∨ w.heap.size ≤ k_) ∧ k_ ≠ gb216)) (by (with_reducible repeat (first | apply Kd.qap | apply Kd.qao | apply Kd.qas)); exact HO_0.out) hg hat)).2.2) KL46.out)); have n5_ := qad.mk (ho); clear HO_0; clear BK216; clear HB; clear HK; clear HR246; clear HO242; have HO_0 := n0_; have BK216 := n1_; have HB := n2_; have HK := n3_; have HR246 := n4_; have HO249 := n5_; clear n0_ n1_ n2_ n3_ n4_ n5_; clear ho hb hg hat; have hcz48_0 : w47.cell? ⟨gb216, 0, none⟩ = some (.int .i64 a1_0) := (qag BK216.out 0).trans rfl; have hcz48_1 : w47.cell? ⟨gb216, 1, none⟩ = some (.int .i64 a1_1) := (qag BK216.out 1).trans rfl; have hfz48_0 := qaf BK216.out 0; have hfz48_1 := qaf BK216.out 1) | ((with_reducible refine qbm (b := .append) (xs := #[.tmp 39, .tmp 41]) rfl ?_); at_builtin; refine Kd.qcm k83 (w0 := w0) w0.heap.size rfl (.tmp 39) (.tmp 41) 48 83 (.agg #[(.int .i64 0), (.int .i64 0)]) 16 rfl Try.underlying48 info83 rfl (by decide) (by omega) v248 y247 (⟨a1_0, a1_1⟩ : S83) [.int .i64 a1_0, .int .i64 a1_1] (fun k_ => (P0_ k_ ∨ w.heap.size ≤ k_) ∧ some k_ ≠ (.slice Ao4 l0.length co4 : Value).ownBlock ∧ k_ ≠ gb216) (fun _ => False) rfl rfl ?aP (fun _ hk => hk.elim) ?aF ?aO ?aB ?aS ?aL ?_; (case aP => exact k83_mkM _ _ _ (⟨a1_0, a1_1⟩ : S83)); (case aB => exact (by repeat (first | (with_reducible first | exact HB.out | apply qac | apply qaa | apply qab | refine qae ?_ GE216.out) | exact HB.out))); (case aF => exact (fun k_ hk => ⟨(.inr (Nat.le_trans (by first | exact HK.out.1 | exact (show Kept w _ (fun k_ => P0_ k_) from by repeat (first | (with_reducible first | exact HK.out | apply Kept.alloc | apply Kept.drewN | apply Kept.drew | refine Kept.setCell ?_ (.inr GW216.out) _) | exact HK.out)).1) hk)), Kd.fresh' (Kd.R_lt (by (with_reducible repeat (first | apply Kd.qap | apply Kd.qao | apply Kd.qas)); exact HO_0.out)) k_ hk, Kd.freshB (g := gb216) (o := .cells #[.int .i64 a1_0, .int .i64 a1_1] 83 (0, 0)) (by (with_reducible repeat (first | refine qai ?_ _ | refine qaj ?_ | refine qah ?_ _)); exact BK216.out) k_ hk⟩)); (case aO => exact (by (with_reducible repeat (first | apply Kd.qap | apply Kd.qao | apply Kd.qas)); exact HO249.out)); (case aS => exact (qal (by repeat (first | (with_reducible first | exact HB.out | apply qac | apply qaa | apply qab | refine qae ?_ GE216.out) | exact HB.out)))); (case aL => have := LMc38.out; omega); intro v251 w49 ho hb hg hat; rw [← Ny250.out] at ho; have n0_ := qad.mk (Kd.qbv (ok := (fun k_ => (P0_ k_ ∨ w.heap.size ≤ k_) ∧ k_ ≠ gb216)) (by (with_reducible repeat (first | apply Kd.qap | apply Kd.qao | apply Kd.qas)); exact HO_0.out) hg hat); have n1_ := qad.mk (qbo (g := gb216) (o := .cells #[.int .i64 a1_0, .int .i64 a1_1] 83 (0, 0)) (by (with_reducible repeat (first | refine qai ?_ _ | refine qaj ?_ | refine qah ?_ _)); exact BK216.out) hg (Kd.qcr HO249.out (fun _ hk => hk.2.2))); have n2_ := qad.mk (hb); have n3_ := qad.mk (Kept.qcg (S := (fun k_ => P0_ k_)) hg (by repeat (first | (with_reducible first | exact HK.out | apply Kept.alloc | apply Kept.drewN | apply Kept.drew | refine Kept.setCell ?_ (.inr GW216.out) _) | exact HK.out)) (fun k_ e_ => (HO249.out.1 k_ e_).1)); have n4_ := qad.mk ((show Kd.C k83 w49 Ao4 y243.length y243 from by rw [Ny243.out]; exact Kd.qcq (m := (x5_1 : Int).toNat) ((Kd.qaw (Kd.qbv (ok := (fun k_ => (P0_ k_ ∨ w.heap.size ≤ k_) ∧ k_ ≠ gb216)) (by (with_reducible repeat (first | apply Kd.qap | apply Kd.qao | apply Kd.qas)); exact HO_0.out) hg hat)).2.2) KL46.out)); have n5_ := qad.mk (ho); clear HO_0; clear BK216; clear HB; clear HK; clear HR246; clear HO249; have HO_0 := n0_; have BK216 := n1_; have HB := n2_; have HK := n3_; have HR246 := n4_; have HO252 := n5_; clear n0_ n1_ n2_ n3_ n4_ n5_; clear ho hb hg hat; have q50 : (x5_1 : Int) ≤ ((l0.length : Int) : Int) := of_decide_eq_true (by first | (with_reducible assumption) | assumption); obtain ⟨i050, hi050, _, hsz50, _⟩ := info_parts info83; have hroom50 : l0.length ≤ co4 := (Kd.qaw HO_0.out).2.1; have hC50 : Kd.C k83 _ Ao4 l0.length l0 := (Kd.qaw HO_0.out).2.2; have q050 : (0 : Int) ≤ (x5_1 : Int) := of_decide_eq_true (by first | (with_reducible assumption) | assumption); have hcut50 := qcw (P := Try.prog) 48 83 .i64 Try.underlying48 hi050 2 hsz50 Ao4 l0.length co4 x5_1 q050 q50; have hr50 := Kd.qcv (m := (x5_1 : Int).toNat) (c := co4) hC50 (by omega) hroom50; obtain ⟨A50, hA50⟩ : ∃ A1, A1 = (if co4 = (x5_1 : Int).toNat then Ao4 else (Ao4 : Option Addr).map (·.add ((x5_1 : Int).toNat * 2))) := ⟨_, rfl⟩; obtain ⟨c50, hc50⟩ : ∃ c1, c1 = co4 - (x5_1 : Int).toNat := ⟨_, rfl⟩; have hy50 : y253.length = l0.length - (x5_1 : Int).toNat := (by rw [Ny253.out, List.length_drop] <;> omega); rw [show (l0).drop (x5_1 : Int).toNat = y253 from Ny253.out.symm] at hr50; replace hr50 : Kd.C k83 _ A50 y253.length y253 := (by rw [hA50]; exact hr50); rw [← hy50, ← hA50, ← hc50] at hcut50; have HR256 := qad.mk hr50; have HC256 := qad.mk (show y253.length ≤ c50 from by rw [hy50, hc50]; exact Nat.sub_le_sub_right hroom50 _); clear hr50 hC50 hroom50 hi050 hsz50 hc50; have KY50 := qad.mk hy50; have KA50 := qad.mk hA50; clear hy50 hA50; have KL50 := qad.mk (show (x5_1 : Int).toNat ≤ l0.length from by omega); replace q50 := eq_true q50) | ((with_reducible refine qbm (b := .append) (xs := #[.tmp 43, .tmp 46]) rfl ?_); at_builtin; refine Kd.qch k83 (w0 := w0) w0.heap.size rfl (.tmp 43) (.tmp 46) 48 83 (.agg #[(.int .i64 0), (.int .i64 0)]) 16 rfl Try.underlying48 info83 rfl (by decide) (by omega) v251 y250 y253 _ _ _ (fun k_ => (P0_ k_ ∨ w.heap.size ≤ k_) ∧ some k_ ≠ (.slice Ao4 l0.length co4 : Value).ownBlock ∧ k_ ≠ gb216) (fun _ => False) rfl rfl ?aO ?aR (fun _ _ h => h) (fun _ h => h.elim) ?aF ?aB ?aS ?aL ?_; (case aR => repeat (first | exact (by repeat (first | (with_reducible exact HR256.out) | (with_reducible first | refine Kd.qav ?_ _ | refine Kd.qau ?_ _ | refine Kd.qba ?_) | exact HR256.out)) | (with_reducible first | refine Kd.qav ?_ _ | refine Kd.qau ?_ _ | refine Kd.qba ?_))); (case aB => exact (by repeat (first | (with_reducible first | exact HB.out | apply qac | apply qaa | apply qab | refine qae ?_ GE216.out) | exact HB.out))); (case aF => exact (fun k_ hk => ⟨(.inr (Nat.le_trans (by first | exact HK.out.1 | exact (show Kept w _ (fun k_ => P0_ k_) from by repeat (first | (with_reducible first | exact HK.out | apply Kept.alloc | apply Kept.drewN | apply Kept.drew | refine Kept.setCell ?_ (.inr GW216.out) _) | exact HK.out)).1) hk)), Kd.fresh' (Kd.R_lt (by (with_reducible repeat (first | apply Kd.qap | apply Kd.qao | apply Kd.qas)); exact HO_0.out)) k_ hk, Kd.freshB (g := gb216) (o := .cells #[.int .i64 a1_0, .int .i64 a1_1] 83 (0, 0)) (by (with_reducible repeat (first | refine qai ?_ _ | refine qaj ?_ | refine qah ?_ _)); exact BK216.out) k_ hk⟩)); (case aO => exact (by (with_reducible repeat (first | apply Kd.qap | apply Kd.qao | apply Kd.qas)); exact HO252.out)); (case aS => exact (qal (by repeat (first | (with_reducible first | exact HB.out | apply qac | apply qaa | apply qab | refine qae ?_ GE216.out) | exact HB.out)))); (case aL => have := LMc41.out; omega); intro v258 w51 ho hb hg hat; rw [← Ny257.out] at ho; have n0_ := qad.mk (Kd.qbv (ok := (fun k_ => (P0_ k_ ∨ w.heap.size ≤ k_) ∧ k_ ≠ gb216)) (by (with_reducible repeat (first | apply Kd.qap | apply Kd.qao | apply Kd.qas)); exact HO_0.out) hg hat); have n1_ := qad.mk (qbo (g := gb216) (o := .cells #[.int .i64 a1_0, .int .i64 a1_1] 83 (0, 0)) (by (with_reducible repeat (first | refine qai ?_ _ | refine qaj ?_ | refine qah ?_ _)); exact BK216.out) hg (Kd.qcr HO252.out (fun _ hk => hk.2.2))); have n2_ := qad.mk (hb); have n3_ := qad.mk (Kept.qcg (S := (fun k_ => P0_ k_)) hg (by repeat (first | (with_reducible first | exact HK.out | apply Kept.alloc | apply Kept.drewN | apply Kept.drew | refine Kept.setCell ?_ (.inr GW216.out) _) | exact HK.out)) (fun k_ e_ => (HO252.out.1 k_ e_).1)); have n4_ := qad.mk ((show Kd.C k83 w51 Ao4 y243.length y243 from by rw [Ny243.out]; exact Kd.qcq (m := (x5_1 : Int).toNat) ((Kd.qaw (Kd.qbv (ok := (fun k_ => (P0_ k_ ∨ w.heap.size ≤ k_) ∧ k_ ≠ gb216)) (by (with_reducible repeat (first | apply Kd.qap | apply Kd.qao | apply Kd.qas)); exact HO_0.out) hg hat)).2.2) KL46.out)); have n5_ := qad.mk ((show Kd.C k83 w51 A50 y253.length y253 from by rw [Ny253.out, KA50.out]; exact Kd.qcv (m := (x5_1 : Int).toNat) (c := co4) ((Kd.qaw (Kd.qbv (ok := (fun k_ => (P0_ k_ ∨ w.heap.size ≤ k_) ∧ k_ ≠ gb216)) (by (with_reducible repeat (first | apply Kd.qap | apply Kd.qao | apply Kd.qas)); exact HO_0.out) hg hat)).2.2) KL50.out ((Kd.qaw (Kd.qbv (ok := (fun k_ => (P0_ k_ ∨ w.heap.size ≤ k_) ∧ k_ ≠ gb216)) (by (with_reducible repeat (first | apply Kd.qap | apply Kd.qao | apply Kd.qas)); exact HO_0.out) hg hat)).2.1))); have n6_ := qad.mk (ho); clear HO_0; clear BK216; clear HB; clear HK; clear HR246; clear HR256; clear HO252; have HO_0 := n0_; have BK216 := n1_; have HB := n2_; have HK := n3_; have HR246 := n4_; have HR256 := n5_; have HO259 := n6_; clear n0_ n1_ n2_ n3_ n4_ n5_ n6_; clear ho hb hg hat))
         go_ret
         exact ⟨_, by first | rfl | (simp [errW_none, errW_some] <;> rfl) | (simp [*, errW_none, errW_some] <;> rfl), by (with_reducible repeat (first | apply Kd.qap | apply Kd.qao | apply Kd.qas)); exact Kd.qbe HO259.out (fun _ hk => hk.1), by repeat (first | (with_reducible first | exact HB.out | apply qac | apply qaa | apply qab | refine qae ?_ GE216.out) | exact HB.out), by repeat (first | (with_reducible first | exact HK.out | apply Kept.alloc | apply Kept.drewN | apply Kept.drew | refine Kept.setCell ?_ (.inr GW216.out) _) | exact HK.out)⟩
        ·rw [if_neg c41] at H
         exact absurd H (by simp)
       ·rw [if_neg c38] at H
        exact absurd H (by simp)
      ·rw [if_neg c37] at H
       exact absurd H (by simp)
     ·rw [if_neg c36] at H
      exact absurd H (by simp)
    ·rw [if_neg c35] at H
     exact absurd H (by simp)


end Go.Proofs.Ytmfkgnfjjfnfmaa.XD
