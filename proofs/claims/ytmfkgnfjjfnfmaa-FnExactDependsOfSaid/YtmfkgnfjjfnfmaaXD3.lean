/- What is proved: contracts of functions of the program (each: where its Lean function answers, the call returns that answer); written by a program of this session. -/
import Derived.Test.YtmfkgnfjjfnfmaaXD0
import Derived.Test.YtmfkgnfjjfnfmaaXD2
namespace Go.Proofs.Ytmfkgnfjjfnfmaa.XD
open Go.RowKit Go.Proofs.YtmfkgnfjjfnfmaaW.PrintWords Go.Proofs.YtmfkgnfjjfnfmaaW.PrintLast Go.Proofs.YtmfkgnfjjfnfmaaW.PrintMore
attribute [local go_sem] qbz qbx qcf qce qbr qbq qby qbw   -- for this text's walks alone
set_option linter.unusedVariables false
set_option linter.unusedSimpArgs false

/-! ### spec_l03Has: function 129 -/
def spec_l03Has.f (k : Nat) (a0_0 : Int) (a0_1 : Int) (l0_2 : List Int) (a1 : Int) : Option (Bool) := (spec_l03Leads.f a0_0 a0_1 a1).bind fun t169 => (if t169 = true then ((spec_l03Find.f k l0_2 a1).bind fun t170 => (some (!t170))) else (some false))
theorem spec_l03Has.mono : ∀ a0 a1 a2 a3 k, LeO (spec_l03Has.f k a0 a1 a2 a3) (spec_l03Has.f (k + 1) a0 a1 a2 a3) := by
 intro a0 a1 a2 a3 k
 unfold spec_l03Has.f
 repeat' first
   | (with_reducible exact spec_l03Find.mono _ _ _)
   | (with_reducible exact LeO.refl _)
   | (with_reducible exact LeO.none _)
   | (with_reducible refine LeO.ite ?_ ?_)
   | (with_reducible refine LeO.bind ?_ (fun _ => ?_))
   | exact spec_l03Find.mono _ _ _
   | exact LeO.none _
   | refine LeO.ite ?_ ?_
   | refine LeO.bind ?_ (fun _ => ?_)
set_option maxHeartbeats 8000000 in
set_option maxRecDepth 100000 in
theorem spec_l03Has.calls (k : Nat) (a0_0 : Int) (a0_1 : Int) (A0_2 : Option Addr) (c0_2 : Nat) (l0_2 : List Int) (a1 : Int) (r : Bool) (w : World) (hr0_2 : Kd.C (Kd.int .i64) w A0_2 l0_2.length l0_2) (hc0_2 : l0_2.length ≤ c0_2) (h : spec_l03Has.f k a0_0 a0_1 l0_2 a1 = some r) :
  Calls Try.prog 129 #[.agg #[.int .i64 a0_0, .int .i64 a0_1, .slice A0_2 l0_2.length c0_2], .int .i64 a1] w fun e w' => e = .returned (.bool r) ∧ Below w.heap.size w w' := by
 have hu34 := Try.underlying34
 have hu32 := Try.underlying32
 have HR0_2 := qad.mk hr0_2
 have HC0_2 := qad.mk hc0_2
 clear hr0_2 hc0_2
 have HB := qad.mk (Below.refl w.heap.size w)
 have H : ((spec_l03Leads.f a0_0 a0_1 a1).bind fun t169 => (if t169 = true then ((spec_l03Find.f k l0_2 a1).bind fun t170 => (some (!t170))) else (some false))) = some r := h
 clear h
 replace H := Option.bind_eq_some_iff.mp H
 obtain ⟨t169, A30, H⟩ := H
 try dsimp only at H
 have A3 := qad.mk A30
 clear A30
 by_cases c4 : t169 = true
 ·subst c4
  have H1 := H
  rw [if_pos rfl] at H1
  clear H
  have H := H1
  clear H1
  replace H := Option.bind_eq_some_iff.mp H
  obtain ⟨t170, A50, H⟩ := H
  try dsimp only at H
  have A5 := qad.mk A50
  clear A50
  obtain rfl := Option.some.inj H
  go_enter Try.func129, Try.ntmps129
  go_wp2_with (first | ((with_reducible refine qar (N := 2) rfl ?_); refine qaq ?hg (N := 2) ?hd (cs := #[.int .i64 a0_0, .int .i64 a0_1, .slice A0_2 l0_2.length c0_2]) (t := 34) ?hr ?_; (case hd => rfl); (case hg => rfl); (case hr => first | (go_simp; done) | (go_simp; rfl)); intro gb168 hg w6 hbox hb; have n0_ := qad.mk (qak (by repeat (first | (with_reducible first | exact HB.out | apply qac | apply qaa | apply qab) | exact HB.out)) hb); have n1_ := qad.mk (hbox); have n2_ := qad.mk ((by rw [hg]; exact (qal (by repeat (first | (with_reducible first | exact HB.out | apply qac | apply qaa | apply qab) | exact HB.out))) : w.heap.size ≤ gb168)); have n3_ := qad.mk ((by rw [hg]; exact (qal (by repeat (first | (with_reducible first | exact HB.out | apply qac | apply qaa | apply qab) | exact HB.out))) : w.heap.size ≤ gb168)); clear HB; have HB := n0_; have BK168 := n1_; have GW168 := n2_; have GE168 := n3_; clear n0_ n1_ n2_ n3_; clear hb hbox hg; have hcz7_0 : w6.cell? ⟨gb168, 0, none⟩ = some (.int .i64 a0_0) := (qag BK168.out 0).trans rfl; have hcz7_1 : w6.cell? ⟨gb168, 1, none⟩ = some (.int .i64 a0_1) := (qag BK168.out 1).trans rfl; have hcz7_2 : w6.cell? ⟨gb168, 2, none⟩ = some (.slice A0_2 l0_2.length c0_2) := (qag BK168.out 2).trans rfl; have hfz7_0 := qaf BK168.out 0; have hfz7_1 := qaf BK168.out 1; have hfz7_2 := qaf BK168.out 2) | ((with_reducible refine qan (f := 146) rfl ?_); refine qay (some 8) rfl rfl Try.func146 (by kernel_rfl) rfl #[.agg #[.int .i64 a0_0, .int .i64 a0_1], .int .i64 a1] rfl (by (try simp only [List.map_toArray, List.map_cons, List.map_nil]); first | done | rfl | (simp only [List.length_drop, List.length_take]; rfl)) ?_; (with_reducible refine (spec_l03Leads.calls a0_0 a0_1 a1 true _ A3.out).mono ?_); rintro e w8 ⟨rfl, hb⟩; refine ⟨_, rfl, ?_⟩; have n0_ := qad.mk (qam (g := gb168) (o := .cells #[.int .i64 a0_0, .int .i64 a0_1, .slice A0_2 l0_2.length c0_2] 34 (0, 0)) (by (with_reducible repeat (first | refine qai ?_ _ | refine qaj ?_ | refine qah ?_ _)); exact BK168.out) hb); have n1_ := qad.mk (qak (by repeat (first | (with_reducible first | exact HB.out | apply qac | apply qaa | apply qab | refine qae ?_ GE168.out) | exact HB.out)) hb); clear BK168; clear HB; have BK168 := n0_; have HB := n1_; clear n0_ n1_; (try clear hb); (try clear hb2); (try clear hk); (try clear hi); have hcz9_0 : w8.cell? ⟨gb168, 0, none⟩ = some (.int .i64 a0_0) := (qag BK168.out 0).trans rfl; have hcz9_1 : w8.cell? ⟨gb168, 1, none⟩ = some (.int .i64 a0_1) := (qag BK168.out 1).trans rfl; have hcz9_2 : w8.cell? ⟨gb168, 2, none⟩ = some (.slice A0_2 l0_2.length c0_2) := (qag BK168.out 2).trans rfl; have hfz9_0 := qaf BK168.out 0; have hfz9_1 := qaf BK168.out 1; have hfz9_2 := qaf BK168.out 2) | (go_at_call 72; (with_reducible refine (spec_l03Find.calls k _ _ l0_2 a1 t170 _ ?side1 ?side2 A5.out).mono ?_); (case side1 => repeat (first | exact (Kd.qaz HR0_2.out HB.out) | (with_reducible first | refine Kd.qav ?_ _ | refine Kd.qau ?_ _ | refine Kd.qba ?_))); (case side2 => exact HC0_2.out); rintro e w' ⟨rfl, ⟨nd, rfl⟩⟩))
  go_ret
  exact ⟨by first | rfl | (simp [errW_none, errW_some] <;> rfl) | (simp [*, errW_none, errW_some] <;> rfl), by repeat (first | (with_reducible first | exact HB.out | apply qac | apply qaa | apply qab | refine qae ?_ GE168.out) | exact HB.out)⟩
 ·replace c4 := Bool.eq_false_iff.mpr c4
  subst c4
  have H1 := H
  rw [if_neg (show ¬ (false = true) by decide)] at H1
  clear H
  have H := H1
  clear H1
  obtain rfl := Option.some.inj H
  go_enter Try.func129, Try.ntmps129
  go_wp2_with (first | ((with_reducible refine qar (N := 2) rfl ?_); refine qaq ?hg (N := 2) ?hd (cs := #[.int .i64 a0_0, .int .i64 a0_1, .slice A0_2 l0_2.length c0_2]) (t := 34) ?hr ?_; (case hd => rfl); (case hg => rfl); (case hr => first | (go_simp; done) | (go_simp; rfl)); intro gb168 hg w10 hbox hb; have n0_ := qad.mk (qak (by repeat (first | (with_reducible first | exact HB.out | apply qac | apply qaa | apply qab) | exact HB.out)) hb); have n1_ := qad.mk (hbox); have n2_ := qad.mk ((by rw [hg]; exact (qal (by repeat (first | (with_reducible first | exact HB.out | apply qac | apply qaa | apply qab) | exact HB.out))) : w.heap.size ≤ gb168)); have n3_ := qad.mk ((by rw [hg]; exact (qal (by repeat (first | (with_reducible first | exact HB.out | apply qac | apply qaa | apply qab) | exact HB.out))) : w.heap.size ≤ gb168)); clear HB; have HB := n0_; have BK168 := n1_; have GW168 := n2_; have GE168 := n3_; clear n0_ n1_ n2_ n3_; clear hb hbox hg; have hcz11_0 : w10.cell? ⟨gb168, 0, none⟩ = some (.int .i64 a0_0) := (qag BK168.out 0).trans rfl; have hcz11_1 : w10.cell? ⟨gb168, 1, none⟩ = some (.int .i64 a0_1) := (qag BK168.out 1).trans rfl; have hcz11_2 : w10.cell? ⟨gb168, 2, none⟩ = some (.slice A0_2 l0_2.length c0_2) := (qag BK168.out 2).trans rfl; have hfz11_0 := qaf BK168.out 0; have hfz11_1 := qaf BK168.out 1; have hfz11_2 := qaf BK168.out 2) | ((with_reducible refine qan (f := 146) rfl ?_); refine qay (some 8) rfl rfl Try.func146 (by kernel_rfl) rfl #[.agg #[.int .i64 a0_0, .int .i64 a0_1], .int .i64 a1] rfl (by (try simp only [List.map_toArray, List.map_cons, List.map_nil]); first | done | rfl | (simp only [List.length_drop, List.length_take]; rfl)) ?_; (with_reducible refine (spec_l03Leads.calls a0_0 a0_1 a1 false _ A3.out).mono ?_); rintro e w12 ⟨rfl, hb⟩; refine ⟨_, rfl, ?_⟩; have n0_ := qad.mk (qam (g := gb168) (o := .cells #[.int .i64 a0_0, .int .i64 a0_1, .slice A0_2 l0_2.length c0_2] 34 (0, 0)) (by (with_reducible repeat (first | refine qai ?_ _ | refine qaj ?_ | refine qah ?_ _)); exact BK168.out) hb); have n1_ := qad.mk (qak (by repeat (first | (with_reducible first | exact HB.out | apply qac | apply qaa | apply qab | refine qae ?_ GE168.out) | exact HB.out)) hb); clear BK168; clear HB; have BK168 := n0_; have HB := n1_; clear n0_ n1_; (try clear hb); (try clear hb2); (try clear hk); (try clear hi)))
  go_ret
  exact ⟨by first | rfl | (simp [errW_none, errW_some] <;> rfl) | (simp [*, errW_none, errW_some] <;> rfl), by repeat (first | (with_reducible first | exact HB.out | apply qac | apply qaa | apply qab | refine qae ?_ GE168.out) | exact HB.out)⟩


/-! ### spec_l04Walk: function 80 -/
def spec_l04Walk.l0 : Nat → Int → List Int → Int → Int → Int → Int → List Int → List Int → Option (List Int)
 | 0, _, _, _, _, _, _, _, _ => none
 | k + 1, x3, x9, x10, x11, x172000, x172001, x172002, x173000 => if (x9.length : Int) ≤ x10 then (if 0 ≤ (wrap64 ((wrap64 (x11 * x10)) + x3)) then (if (wrap64 ((wrap64 (x11 * x10)) + x3)) < (x173000.length : Int) then (if (rd x173000 (wrap64 ((wrap64 (x11 * x10)) + x3))) = 4 then (if x11 = x3 then (some x9) else (some (([] : List Int)))) else ((spec_l01In.f (rd x173000 (wrap64 ((wrap64 (x11 * x10)) + x3))) 0 3).bind fun t184 => (if t184 = true then ((spec_l03Has.f k x172000 x172001 x172002 (wrap64 ((wrap64 (4 * x11)) + (rd x173000 (wrap64 ((wrap64 (x11 * x10)) + x3)))))).bind fun t185 => (if t185 = true then (if x9.length < 17592186044416 then ((spec_NextNode.f x172000 x172001 x11 (rd x173000 (wrap64 ((wrap64 (x11 * x10)) + x3)))).bind fun t189 => (spec_l04Walk.l0 k x3 (x9 ++ [wrap64 ((wrap64 (4 * x11)) + (rd x173000 (wrap64 ((wrap64 (x11 * x10)) + x3))))]) x10 t189 x172000 x172001 x172002 x173000)) else (none)) else (some (([] : List Int))))) else (some (([] : List Int)))))) else (none)) else (none)) else (some (([] : List Int)))
def spec_l04Walk.f (k : Nat) (a0_0 : Int) (a0_1 : Int) (l0_2 : List Int) (l1_0 : List Int) (a2 : Int) (a3 : Int) : Option (List Int) := (spec_NodeCount.f a0_0 a0_1).bind fun t176 => (spec_l04Walk.l0 k a3 (([] : List Int)) t176 a2 a0_0 a0_1 l0_2 l1_0)
theorem spec_l04Walk.mono_l : ∀ k, (∀ y0 y1 y2 y3 y4 y5 y6 y7, LeO (spec_l04Walk.l0 k y0 y1 y2 y3 y4 y5 y6 y7) (spec_l04Walk.l0 (k + 1) y0 y1 y2 y3 y4 y5 y6 y7))
 | 0 => fun _ _ _ _ _ _ _ _ r h => by simp [spec_l04Walk.l0] at h
 | k + 1 => by
  have ih0 := spec_l04Walk.mono_l k
  ·intro y0 y1 y2 y3 y4 y5 y6 y7
   unfold spec_l04Walk.l0
   repeat' first
   | (with_reducible exact ih0 _ _ _ _ _ _ _ _)
   | (with_reducible exact spec_l03Has.mono _ _ _ _ _)
   | (with_reducible exact LeO.refl _)
   | (with_reducible exact LeO.none _)
   | (with_reducible refine LeO.ite ?_ ?_)
   | (with_reducible refine LeO.bind ?_ (fun _ => ?_))
   | exact ih0 _ _ _ _ _ _ _ _
   | exact spec_l03Has.mono _ _ _ _ _
   | exact LeO.none _
   | refine LeO.ite ?_ ?_
   | refine LeO.bind ?_ (fun _ => ?_)
theorem spec_l04Walk.mono : ∀ a0 a1 a2 a3 a4 a5 k, LeO (spec_l04Walk.f k a0 a1 a2 a3 a4 a5) (spec_l04Walk.f (k + 1) a0 a1 a2 a3 a4 a5) := by
 intro a0 a1 a2 a3 a4 a5 k
 have ih0 := spec_l04Walk.mono_l k
 unfold spec_l04Walk.f
 repeat' first
   | (with_reducible exact ih0 _ _ _ _ _ _ _ _)
   | (with_reducible exact spec_l03Has.mono _ _ _ _ _)
   | (with_reducible exact LeO.refl _)
   | (with_reducible exact LeO.none _)
   | (with_reducible refine LeO.ite ?_ ?_)
   | (with_reducible refine LeO.bind ?_ (fun _ => ?_))
   | exact ih0 _ _ _ _ _ _ _ _
   | exact spec_l03Has.mono _ _ _ _ _
   | exact LeO.none _
   | refine LeO.ite ?_ ?_
   | refine LeO.bind ?_ (fun _ => ?_)
set_option maxHeartbeats 8000000 in
set_option maxRecDepth 100000 in
theorem spec_l04Walk.calls (k : Nat) (a0_0 : Int) (a0_1 : Int) (A0_2 : Option Addr) (c0_2 : Nat) (l0_2 : List Int) (A1_0 : Option Addr) (c1_0 : Nat) (l1_0 : List Int) (a2 : Int) (a3 : Int) (r : List Int) (w : World) (hr0_2 : Kd.C (Kd.int .i64) w A0_2 l0_2.length l0_2) (hc0_2 : l0_2.length ≤ c0_2) (hr1_0 : Kd.C (Kd.int .i64) w A1_0 l1_0.length l1_0) (hc1_0 : l1_0.length ≤ c1_0) (h : spec_l04Walk.f k a0_0 a0_1 l0_2 l1_0 a2 a3 = some r) :
  Calls Try.prog 80 #[.agg #[.int .i64 a0_0, .int .i64 a0_1, .slice A0_2 l0_2.length c0_2], .agg #[.slice A1_0 l1_0.length c1_0], .int .i64 a2, .int .i64 a3] w fun e w' => ∃ v0_ : Value, e = .returned (v0_) ∧ Kd.R (Kd.int .i64) 3 w' w.heap.size (fun _ => True) v0_ r ∧ Below w.heap.size w w' := by
 have hu34 := Try.underlying34
 have hu36 := Try.underlying36
 have hu32 := Try.underlying32
 have HR0_2 := qad.mk hr0_2
 have HC0_2 := qad.mk hc0_2
 clear hr0_2 hc0_2
 have HR1_0 := qad.mk hr1_0
 have HC1_0 := qad.mk hc1_0
 clear hr1_0 hc1_0
 have HB := qad.mk (Below.refl w.heap.size w)
 have H : ((spec_NodeCount.f a0_0 a0_1).bind fun t176 => (spec_l04Walk.l0 k a3 (([] : List Int)) t176 a2 a0_0 a0_1 l0_2 l1_0)) = some r := h
 clear h
 obtain ⟨y173, hy173⟩ : ∃ y_ : List Int, y_ = (([] : List Int)) := ⟨_, rfl⟩
 replace H : ((spec_NodeCount.f a0_0 a0_1).bind fun t176 => (spec_l04Walk.l0 k a3 y173 t176 a2 a0_0 a0_1 l0_2 l1_0)) = some r := by first | (rw [hy173]; with_reducible exact H) | (have H2_ := (Option.bind_some _ _).symm.trans H; rw [hy173]; with_reducible exact H2_) | (have H2_ := (Option.bind_some _ _).symm.trans H; with_reducible exact H2_) | with_reducible exact H | (rw [hy173]; exact H) | exact H
 have Ny173 := qad.mk hy173
 clear hy173
 replace H := Option.bind_eq_some_iff.mp H
 obtain ⟨t176, A50, H⟩ := H
 try dsimp only at H
 have A5 := qad.mk A50
 clear A50
 have H' := qad.mk H
 clear H
 go_enter Try.func80, Try.ntmps80
 go_wp2_with (first | ((with_reducible refine qar (N := 4) rfl ?_); refine qaq ?hg (N := 4) ?hd (cs := #[.int .i64 a0_0, .int .i64 a0_1, .slice A0_2 l0_2.length c0_2]) (t := 34) ?hr ?_; (case hd => rfl); (case hg => rfl); (case hr => first | (go_simp; done) | (go_simp; rfl)); intro gb171 hg w6 hbox hb; have n0_ := qad.mk (qak (by repeat (first | (with_reducible first | exact HB.out | apply qac | apply qaa | apply qab) | exact HB.out)) hb); have n1_ := qad.mk (hbox); have n2_ := qad.mk ((by rw [hg]; exact (qal (by repeat (first | (with_reducible first | exact HB.out | apply qac | apply qaa | apply qab) | exact HB.out))) : w.heap.size ≤ gb171)); have n3_ := qad.mk ((by rw [hg]; exact (qal (by repeat (first | (with_reducible first | exact HB.out | apply qac | apply qaa | apply qab) | exact HB.out))) : w.heap.size ≤ gb171)); clear HB; have HB := n0_; have BK171 := n1_; have GW171 := n2_; have GE171 := n3_; clear n0_ n1_ n2_ n3_; clear hb hbox hg) | ((with_reducible refine qar (N := 5) rfl ?_); refine qaq ?hg (N := 5) ?hd (cs := #[.slice A1_0 l1_0.length c1_0]) (t := 36) ?hr ?_; (case hd => rfl); (case hg => rfl); (case hr => first | (go_simp; done) | (go_simp; rfl)); intro gb172 hg w7 hbox hb; have n0_ := qad.mk (qam (g := gb171) (o := .cells #[.int .i64 a0_0, .int .i64 a0_1, .slice A0_2 l0_2.length c0_2] 34 (0, 0)) (by (with_reducible repeat (first | refine qai ?_ _ | refine qaj ?_ | refine qah ?_ _)); exact BK171.out) hb); have n1_ := qad.mk (qak (by repeat (first | (with_reducible first | exact HB.out | apply qac | apply qaa | apply qab | refine qae ?_ GE171.out) | exact HB.out)) hb); have n2_ := qad.mk (hbox); have n3_ := qad.mk ((by rw [hg]; exact (qal (by repeat (first | (with_reducible first | exact HB.out | apply qac | apply qaa | apply qab | refine qae ?_ GE171.out) | exact HB.out))) : w.heap.size ≤ gb172)); have n4_ := qad.mk ((by rw [hg]; exact (qal (by repeat (first | (with_reducible first | exact HB.out | apply qac | apply qaa | apply qab | refine qae ?_ GE171.out) | exact HB.out))) : w.heap.size ≤ gb172)); have n5_ := qad.mk ((by rw [hg]; exact Nat.ne_of_lt (qbb (g := gb171) (o := .cells #[.int .i64 a0_0, .int .i64 a0_1, .slice A0_2 l0_2.length c0_2] 34 (0, 0)) (by (with_reducible repeat (first | refine qai ?_ _ | refine qaj ?_ | refine qah ?_ _)); exact BK171.out)) : gb171 ≠ gb172)); have n6_ := qad.mk ((by rw [hg]; exact Nat.ne_of_gt (qbb (g := gb171) (o := .cells #[.int .i64 a0_0, .int .i64 a0_1, .slice A0_2 l0_2.length c0_2] 34 (0, 0)) (by (with_reducible repeat (first | refine qai ?_ _ | refine qaj ?_ | refine qah ?_ _)); exact BK171.out)) : gb172 ≠ gb171)); clear BK171; clear HB; have BK171 := n0_; have HB := n1_; have BK172 := n2_; have GW172 := n3_; have GE172 := n4_; have NB171_172 := n5_; have NB172_171 := n6_; clear n0_ n1_ n2_ n3_ n4_ n5_ n6_; clear hb hbox hg) | ((with_reducible refine qar (N := 13) rfl ?_); refine Kd.R_lit (Kd.int .i64) _ 3 ?hg (N := 13) ?hd (xs := ([] : List Int)) (inner := []) (ok := fun _ => True) (okp := fun _ => True) ?hr ?hp (fun _ hk => hk) trivial (Below.refl _ _) (Nat.le_refl _) (by simp) ?_; (case hd => rfl); (case hg => rfl); (case hr => first | (go_simp; done) | (go_simp; rfl)); (case hp => exact (Reps.none _ _)); intro v174 w8 ho9 hb hg_ hnew_; clear hg_ hnew_; (first | rw [← Ny173.out] at ho9 | (simp only [Int.reduceToNat] at ho9; rw [← Ny173.out] at ho9)); have n0_ := qad.mk (Kd.qbi ho9 (qal (by repeat (first | (with_reducible first | exact HB.out | apply qac | apply qaa | apply qab | refine qae ?_ GE171.out | refine qae ?_ GE172.out) | exact HB.out)))); have n1_ := qad.mk (qam (g := gb171) (o := .cells #[.int .i64 a0_0, .int .i64 a0_1, .slice A0_2 l0_2.length c0_2] 34 (0, 0)) (by (with_reducible repeat (first | refine qai ?_ _ | refine qaj ?_ | refine qah ?_ _)); exact BK171.out) hb); have n2_ := qad.mk (qam (g := gb172) (o := .cells #[.slice A1_0 l1_0.length c1_0] 36 (0, 0)) (by (with_reducible repeat (first | refine qai ?_ _ | refine qaj ?_ | refine qah ?_ _)); exact BK172.out) hb); have n3_ := qad.mk (qak (by repeat (first | (with_reducible first | exact HB.out | apply qac | apply qaa | apply qab | refine qae ?_ GE171.out | refine qae ?_ GE172.out) | exact HB.out)) hb); clear BK171; clear BK172; clear HB; have HO175 := n0_; have BK171 := n1_; have BK172 := n2_; have HB := n3_; clear n0_ n1_ n2_ n3_; clear hb ho9; have hnb10 := NB171_172.out; have hnc10 := NB172_171.out; have hcz11_0 : w8.cell? ⟨gb171, 0, none⟩ = some (.int .i64 a0_0) := (qag BK171.out 0).trans rfl; have hcz11_1 : w8.cell? ⟨gb171, 1, none⟩ = some (.int .i64 a0_1) := (qag BK171.out 1).trans rfl; have hcz11_2 : w8.cell? ⟨gb171, 2, none⟩ = some (.slice A0_2 l0_2.length c0_2) := (qag BK171.out 2).trans rfl; have hfz11_0 := qaf BK171.out 0; have hfz11_1 := qaf BK171.out 1; have hfz11_2 := qaf BK171.out 2) | ((with_reducible refine qan (f := 79) rfl ?_); refine qay (some 16) rfl rfl Try.func79 (by kernel_rfl) rfl #[.agg #[.int .i64 a0_0, .int .i64 a0_1]] rfl (by (try simp only [List.map_toArray, List.map_cons, List.map_nil]); first | done | rfl | (simp only [List.length_drop, List.length_take]; rfl)) ?_; (with_reducible refine (spec_NodeCount.calls a0_0 a0_1 t176 _ A5.out).mono ?_); rintro e w12 ⟨rfl, hb⟩; refine ⟨_, rfl, ?_⟩; have n0_ := qad.mk (Kd.qax (by (with_reducible repeat (first | apply Kd.qap | apply Kd.qao | apply Kd.qas)); exact HO175.out) hb); have n1_ := qad.mk (qam (g := gb171) (o := .cells #[.int .i64 a0_0, .int .i64 a0_1, .slice A0_2 l0_2.length c0_2] 34 (0, 0)) (by (with_reducible repeat (first | refine qai ?_ _ | refine qaj ?_ | refine qah ?_ _)); exact BK171.out) hb); have n2_ := qad.mk (qam (g := gb172) (o := .cells #[.slice A1_0 l1_0.length c1_0] 36 (0, 0)) (by (with_reducible repeat (first | refine qai ?_ _ | refine qaj ?_ | refine qah ?_ _)); exact BK172.out) hb); have n3_ := qad.mk (qak (by repeat (first | (with_reducible first | exact HB.out | apply qac | apply qaa | apply qab | refine qae ?_ GE171.out | refine qae ?_ GE172.out) | exact HB.out)) hb); clear HO175; clear BK171; clear BK172; clear HB; have HO175 := n0_; have BK171 := n1_; have BK172 := n2_; have HB := n3_; clear n0_ n1_ n2_ n3_; (try clear hb); (try clear hb2); (try clear hk); (try clear hi)))
 go_loopg [9, 11] k (fun kq v9 v11 w' => ∃ (x9_1 : List Int) (x11_1 : Int), v11 = .int .i64 x11_1 ∧ qad (spec_l04Walk.l0 kq a3 x9_1 t176 x11_1 a0_0 a0_1 l0_2 l1_0 = some r) ∧ qad (kq ≤ k) ∧ qad (Kd.R (Kd.int .i64) 3 w' w.heap.size (fun _ => True) v9 x9_1) ∧ qad (w'.heap[gb171]? = some (.cells #[.int .i64 a0_0, .int .i64 a0_1, (.slice A0_2 l0_2.length c0_2)] 34 (0, 0))) ∧ qad (w'.heap[gb172]? = some (.cells #[(.slice A1_0 l1_0.length c1_0)] 36 (0, 0))) ∧ qad (Below w.heap.size w w'))
 case atStart => exact ⟨(y173), (a2), (by first | rfl | (simp; done) | (simp [*]; done)), H', ⟨Nat.le_refl _⟩, ⟨by (with_reducible repeat (first | apply Kd.qap | apply Kd.qao | apply Kd.qas)); exact HO175.out⟩, ⟨by (with_reducible repeat (first | refine qai ?_ _ | refine qaj ?_ | refine qah ?_ _)); exact BK171.out⟩, ⟨by (with_reducible repeat (first | refine qai ?_ _ | refine qaj ?_ | refine qah ?_ _)); exact BK172.out⟩, ⟨by repeat (first | (with_reducible first | exact HB.out | apply qac | apply qaa | apply qab | refine qae ?_ GE171.out | refine qae ?_ GE172.out) | exact HB.out)⟩⟩
 case round =>
  clear H'
  try clear c1
  try clear p2
  try clear c7
  try clear c8
  try clear c10
  try clear hcz11_0
  try clear hcz11_1
  try clear hcz11_2
  try clear hfz11_0
  try clear hfz11_1
  try clear hfz11_2
  obtain ⟨x9_1, x11_1, rfl, HA, HK1, HO_9, BK171, BK172, HB⟩ := hrel
  cases gk with
  | zero => exact absurd HA.out (by simp [spec_l04Walk.l0])
  | succ k1 =>
   have H := HA.out
   clear HA
   simp only [spec_l04Walk.l0] at H
   by_cases c13 : (x9_1.length : Int) ≤ t176
   ·rw [if_pos c13] at H
    have c13b0 : decide ((x9_1.length : Int) ≤ t176) = true := decide_eq_true c13
    clear c13
    obtain ⟨ji14, hji14⟩ : ∃ j_ : Int, (wrap64 ((wrap64 (x11_1 * t176)) + a3)) = j_ := ⟨_, rfl⟩
    replace H : (if 0 ≤ (ji14) then (if (ji14) < (l1_0.length : Int) then (if (rd l1_0 (ji14)) = 4 then (if x11_1 = a3 then (some x9_1) else (some (([] : List Int)))) else ((spec_l01In.f (rd l1_0 (ji14)) 0 3).bind fun t184 => (if t184 = true then ((spec_l03Has.f k1 a0_0 a0_1 l0_2 (wrap64 ((wrap64 (4 * x11_1)) + (rd l1_0 (ji14))))).bind fun t185 => (if t185 = true then (if x9_1.length < 17592186044416 then ((spec_NextNode.f a0_0 a0_1 x11_1 (rd l1_0 (ji14))).bind fun t189 => (spec_l04Walk.l0 k1 a3 (x9_1 ++ [wrap64 ((wrap64 (4 * x11_1)) + (rd l1_0 (ji14)))]) t176 t189 a0_0 a0_1 l0_2 l1_0)) else (none)) else (some (([] : List Int))))) else (some (([] : List Int)))))) else (none)) else (none)) = some r := by first | (rw [hji14] at H; exact H) | (simp only [hji14] at H ⊢; exact H)
    have hji14w : (IntKind.i64.wrap ((wrap64 (x11_1 * t176)) + a3)) = ji14 := (i64_w _).trans hji14
    by_cases c15 : 0 ≤ (ji14)
    ·rw [if_pos c15] at H
     have c15b0 : decide (0 ≤ (ji14)) = true := decide_eq_true c15
     clear c15
     by_cases c16 : (ji14) < (l1_0.length : Int)
     ·rw [if_pos c16] at H
      have c16b0 : decide ((ji14) < (l1_0.length : Int)) = true := decide_eq_true c16
      clear c16
      by_cases c17 : (rd l1_0 (ji14)) = 4
      ·rw [if_pos c17] at H
       have c17b0 : ((rd l1_0 (ji14)) == 4) = true := beq_iff_eq.mpr c17
       have c17b1 : ((rd l1_0 (ji14)) != 4) = false := bne_eq_false_iff_eq.mpr c17
       clear c17
       by_cases c18 : x11_1 = a3
       ·rw [if_pos c18] at H
        have c18b0 : (x11_1 == a3) = true := beq_iff_eq.mpr c18
        have c18b1 : (x11_1 != a3) = false := bne_eq_false_iff_eq.mpr c18
        clear c18
        obtain rfl := Option.some.inj H
        obtain ⟨Ao19, co19, eo19⟩ := Kd.qbg HO_9.out
        subst eo19
        have hnb20 := NB172_171.out
        have hnc20 := NB171_172.out
        have hcz21_0 : wr.cell? ⟨gb172, 0, none⟩ = some (.slice A1_0 l1_0.length c1_0) := (qag BK172.out 0).trans rfl
        have hfz21_0 := qaf BK172.out 0
        have p180 : 0 ≤ ((ji14) : Int) := of_decide_eq_true (by first | (with_reducible assumption) | assumption)
        have q180 : (ji14) < (l1_0.length : Int) := of_decide_eq_true (by first | (with_reducible assumption) | assumption)
        obtain ⟨ad180, e180, hx180_0⟩ := Kd.qbh HR1_0.out (ji14) p180 q180
        cases e180
        replace hx180_0 := (HB.out.cell (World.block_lt_of_cell? w _ hx180_0)).trans hx180_0
        replace p180 := eq_true p180
        replace q180 := eq_true q180
        go_wp2
        go_ret
        exact ⟨_, by first | rfl | (simp [errW_none, errW_some] <;> rfl) | (simp only [← hji14]; first | rfl | (simp [errW_none, errW_some] <;> rfl)) | (simp [*, errW_none, errW_some] <;> rfl), by (with_reducible repeat (first | apply Kd.qap | apply Kd.qao | apply Kd.qas)); exact HO_9.out, by repeat (first | (with_reducible first | exact HB.out | apply qac | apply qaa | apply qab | refine qae ?_ GE171.out | refine qae ?_ GE172.out) | exact HB.out)⟩
       ·rw [if_neg c18] at H
        have c18b0 : (x11_1 == a3) = false := beq_eq_false_iff_ne.mpr c18
        have c18b1 : (x11_1 != a3) = true := bne_iff_ne.mpr c18
        obtain ⟨y181, hy181⟩ : ∃ y_ : List Int, y_ = (([] : List Int)) := ⟨_, rfl⟩
        replace H : (some y181) = some r := by first | (rw [hy181]; with_reducible exact H) | (have H2_ := (Option.bind_some _ _).symm.trans H; rw [hy181]; with_reducible exact H2_) | (have H2_ := (Option.bind_some _ _).symm.trans H; with_reducible exact H2_) | with_reducible exact H | (rw [hy181]; exact H) | exact H
        have Ny181 := qad.mk hy181
        clear hy181
        obtain rfl := Option.some.inj H
        obtain ⟨Ao22, co22, eo22⟩ := Kd.qbg HO_9.out
        subst eo22
        have hnb23 := NB172_171.out
        have hnc23 := NB171_172.out
        have hcz24_0 : wr.cell? ⟨gb172, 0, none⟩ = some (.slice A1_0 l1_0.length c1_0) := (qag BK172.out 0).trans rfl
        have hfz24_0 := qaf BK172.out 0
        have p180 : 0 ≤ ((ji14) : Int) := of_decide_eq_true (by first | (with_reducible assumption) | assumption)
        have q180 : (ji14) < (l1_0.length : Int) := of_decide_eq_true (by first | (with_reducible assumption) | assumption)
        obtain ⟨ad180, e180, hx180_0⟩ := Kd.qbh HR1_0.out (ji14) p180 q180
        cases e180
        replace hx180_0 := (HB.out.cell (World.block_lt_of_cell? w _ hx180_0)).trans hx180_0
        replace p180 := eq_true p180
        replace q180 := eq_true q180
        go_wp2_with (first | ((with_reducible refine qar (N := 36) rfl ?_); refine Kd.R_lit (Kd.int .i64) _ 3 ?hg (N := 36) ?hd (xs := ([] : List Int)) (inner := []) (ok := fun _ => True) (okp := fun _ => True) ?hr ?hp (fun _ hk => hk) trivial (Below.refl _ _) (Nat.le_refl _) (by simp) ?_; (case hd => rfl); (case hg => rfl); (case hr => first | (go_simp; done) | (go_simp; rfl)); (case hp => exact (Reps.none _ _)); intro v182 w25 ho26 hb hg_ hnew_; clear hg_ hnew_; (first | rw [← Ny181.out] at ho26 | (simp only [Int.reduceToNat] at ho26; rw [← Ny181.out] at ho26)); have n0_ := qad.mk (Kd.qbf (by (with_reducible repeat (first | apply Kd.qap | apply Kd.qao | apply Kd.qas)); exact HO_9.out) (Kd.qbk ho26) hb); have n1_ := qad.mk (Kd.qbi (Kd.qbl ho26 (Kd.R_lt (by (with_reducible repeat (first | apply Kd.qap | apply Kd.qao | apply Kd.qas)); exact HO_9.out))) (qal (by repeat (first | (with_reducible first | exact HB.out | apply qac | apply qaa | apply qab | refine qae ?_ GE171.out | refine qae ?_ GE172.out) | exact HB.out)))); have n2_ := qad.mk (qam (g := gb171) (o := .cells #[.int .i64 a0_0, .int .i64 a0_1, .slice A0_2 l0_2.length c0_2] 34 (0, 0)) (by (with_reducible repeat (first | refine qai ?_ _ | refine qaj ?_ | refine qah ?_ _)); exact BK171.out) hb); have n3_ := qad.mk (qam (g := gb172) (o := .cells #[.slice (some ad180) l1_0.length c1_0] 36 (0, 0)) (by (with_reducible repeat (first | refine qai ?_ _ | refine qaj ?_ | refine qah ?_ _)); exact BK172.out) hb); have n4_ := qad.mk (qak (by repeat (first | (with_reducible first | exact HB.out | apply qac | apply qaa | apply qab | refine qae ?_ GE171.out | refine qae ?_ GE172.out) | exact HB.out)) hb); clear HO_9; clear BK171; clear BK172; clear HB; have HO_9 := n0_; have HO183 := n1_; have BK171 := n2_; have BK172 := n3_; have HB := n4_; clear n0_ n1_ n2_ n3_ n4_; clear hb ho26))
        go_ret
        exact ⟨_, by first | rfl | (simp [errW_none, errW_some] <;> rfl) | (simp only [← hji14]; first | rfl | (simp [errW_none, errW_some] <;> rfl)) | (simp [*, errW_none, errW_some] <;> rfl), by (with_reducible repeat (first | apply Kd.qap | apply Kd.qao | apply Kd.qas)); exact Kd.qbe HO183.out (fun _ hk => trivial), by repeat (first | (with_reducible first | exact HB.out | apply qac | apply qaa | apply qab | refine qae ?_ GE171.out | refine qae ?_ GE172.out) | exact HB.out)⟩
      ·rw [if_neg c17] at H
       have c17b0 : ((rd l1_0 (ji14)) == 4) = false := beq_eq_false_iff_ne.mpr c17
       have c17b1 : ((rd l1_0 (ji14)) != 4) = true := bne_iff_ne.mpr c17
       replace H := Option.bind_eq_some_iff.mp H
       obtain ⟨t184, A270, H⟩ := H
       try dsimp only at H
       have A27 := qad.mk A270
       clear A270
       by_cases c28 : t184 = true
       ·subst c28
        have H1 := H
        rw [if_pos rfl] at H1
        clear H
        have H := H1
        clear H1
        replace H := Option.bind_eq_some_iff.mp H
        obtain ⟨t185, A290, H⟩ := H
        try dsimp only at H
        have A29 := qad.mk A290
        clear A290
        by_cases c30 : t185 = true
        ·subst c30
         have H1 := H
         rw [if_pos rfl] at H1
         clear H
         have H := H1
         clear H1
         by_cases c31 : x9_1.length < 17592186044416
         ·rw [if_pos c31] at H
          have LMc31 := qad.mk c31
          clear c31
          obtain ⟨y186, hy186⟩ : ∃ y_ : List Int, y_ = (x9_1 ++ [wrap64 ((wrap64 (4 * x11_1)) + (rd l1_0 (ji14)))]) := ⟨_, rfl⟩
          replace H : ((spec_NextNode.f a0_0 a0_1 x11_1 (rd l1_0 (ji14))).bind fun t189 => (spec_l04Walk.l0 k1 a3 y186 t176 t189 a0_0 a0_1 l0_2 l1_0)) = some r := by first | (rw [hy186]; with_reducible exact H) | (have H2_ := (Option.bind_some _ _).symm.trans H; rw [hy186]; with_reducible exact H2_) | (have H2_ := (Option.bind_some _ _).symm.trans H; with_reducible exact H2_) | with_reducible exact H | (rw [hy186]; exact H) | exact H
          have Ny186 := qad.mk hy186
          clear hy186
          replace H := Option.bind_eq_some_iff.mp H
          obtain ⟨t189, A320, H⟩ := H
          try dsimp only at H
          have A32 := qad.mk A320
          clear A320
          have H' := qad.mk H
          clear H
          obtain ⟨Ao33, co33, eo33⟩ := Kd.qbg HO_9.out
          subst eo33
          have hnb34 := NB172_171.out
          have hnc34 := NB171_172.out
          have hcz35_0 : wr.cell? ⟨gb172, 0, none⟩ = some (.slice A1_0 l1_0.length c1_0) := (qag BK172.out 0).trans rfl
          have hfz35_0 := qaf BK172.out 0
          have p180 : 0 ≤ ((ji14) : Int) := of_decide_eq_true (by first | (with_reducible assumption) | assumption)
          have q180 : (ji14) < (l1_0.length : Int) := of_decide_eq_true (by first | (with_reducible assumption) | assumption)
          obtain ⟨ad180, e180, hx180_0⟩ := Kd.qbh HR1_0.out (ji14) p180 q180
          cases e180
          replace hx180_0 := (HB.out.cell (World.block_lt_of_cell? w _ hx180_0)).trans hx180_0
          replace p180 := eq_true p180
          replace q180 := eq_true q180
          go_wp2_with (first | ((with_reducible refine qan (f := 128) rfl ?_); refine qay (some 39) rfl rfl Try.func128 (by kernel_rfl) rfl #[.int .i64 (rd l1_0 (ji14)), .int .i64 0, .int .i64 3] rfl (by (try simp only [List.map_toArray, List.map_cons, List.map_nil]); first | done | (simp only [hji14]; rfl) | rfl | (simp only [List.length_drop, List.length_take]; rfl)) ?_; (with_reducible refine (spec_l01In.calls (rd l1_0 (ji14)) 0 3 true _ A27.out).mono ?_); rintro e w' ⟨rfl, ⟨nd, rfl⟩⟩; refine ⟨_, rfl, ?_⟩; have hcz36_0 : wr.cell? ⟨gb171, 0, none⟩ = some (.int .i64 a0_0) := (qag BK171.out 0).trans rfl; have hcz36_1 : wr.cell? ⟨gb171, 1, none⟩ = some (.int .i64 a0_1) := (qag BK171.out 1).trans rfl; have hcz36_2 : wr.cell? ⟨gb171, 2, none⟩ = some (.slice A0_2 l0_2.length c0_2) := (qag BK171.out 2).trans rfl; have hfz36_0 := qaf BK171.out 0; have hfz36_1 := qaf BK171.out 1; have hfz36_2 := qaf BK171.out 2) | (go_at_call 129; (with_reducible refine (spec_l03Has.calls k1 a0_0 a0_1 _ _ l0_2 (wrap64 ((wrap64 (4 * x11_1)) + (rd l1_0 (ji14)))) true _ ?side1 ?side2 A29.out).mono ?_); (case side1 => repeat (first | exact (Kd.qaz HR0_2.out (by repeat (first | (with_reducible first | exact HB.out | apply qac | apply qaa | apply qab | refine qae ?_ GE171.out | refine qae ?_ GE172.out) | exact HB.out))) | (with_reducible first | refine Kd.qav ?_ _ | refine Kd.qau ?_ _ | refine Kd.qba ?_))); (case side2 => exact HC0_2.out); rintro e w37 ⟨rfl, hb⟩; have n0_ := qad.mk (Kd.qax (by (with_reducible repeat (first | apply Kd.qap | apply Kd.qao | apply Kd.qas)); exact HO_9.out) hb); have n1_ := qad.mk (qam (g := gb171) (o := .cells #[.int .i64 a0_0, .int .i64 a0_1, .slice A0_2 l0_2.length c0_2] 34 (0, 0)) (by (with_reducible repeat (first | refine qai ?_ _ | refine qaj ?_ | refine qah ?_ _)); exact BK171.out) hb); have n2_ := qad.mk (qam (g := gb172) (o := .cells #[.slice (some ad180) l1_0.length c1_0] 36 (0, 0)) (by (with_reducible repeat (first | refine qai ?_ _ | refine qaj ?_ | refine qah ?_ _)); exact BK172.out) hb); have n3_ := qad.mk (qak (by repeat (first | (with_reducible first | exact HB.out | apply qac | apply qaa | apply qab | refine qae ?_ GE171.out | refine qae ?_ GE172.out) | exact HB.out)) hb); clear HO_9; clear BK171; clear BK172; clear HB; have HO_9 := n0_; have BK171 := n1_; have BK172 := n2_; have HB := n3_; clear n0_ n1_ n2_ n3_; (try clear hb); (try clear hb2); (try clear hk); (try clear hi)) | ((with_reducible refine qbm (b := .append) (xs := #[.tmp 51, .tmp 56]) rfl ?_); at_builtin; refine Kd.qcm (Kd.int .i64) (w0 := w) w.heap.size rfl (.tmp 51) (.tmp 56) 24 3 (.int .i64 0) 8 rfl Try.underlying24 info3 rfl (by decide) (by omega) (.slice Ao33 x9_1.length co33) x9_1 (wrap64 ((wrap64 (4 * x11_1)) + (rd l1_0 (ji14)))) [.int .i64 (wrap64 ((wrap64 (4 * x11_1)) + (rd l1_0 (ji14))))] (fun _ => True) (fun _ => False) rfl rfl ?aP (fun _ hk => hk.elim) ?aF ?aO ?aB ?aS ?aL ?_; (case aP => exact rfl); (case aB => exact (by repeat (first | (with_reducible first | exact HB.out | apply qac | apply qaa | apply qab | refine qae ?_ GE171.out | refine qae ?_ GE172.out) | exact HB.out))); (case aF => exact (fun _ _ => trivial)); (case aO => exact (by (with_reducible repeat (first | apply Kd.qap | apply Kd.qao | apply Kd.qas)); exact HO_9.out)); (case aS => exact (qal (by repeat (first | (with_reducible first | exact HB.out | apply qac | apply qaa | apply qab | refine qae ?_ GE171.out | refine qae ?_ GE172.out) | exact HB.out)))); (case aL => have := LMc31.out; omega); intro v187 w38 ho hb hg hat; rw [← Ny186.out] at ho; have n0_ := qad.mk (qbo (g := gb171) (o := .cells #[.int .i64 a0_0, .int .i64 a0_1, .slice A0_2 l0_2.length c0_2] 34 (0, 0)) (by (with_reducible repeat (first | refine qai ?_ _ | refine qaj ?_ | refine qah ?_ _)); exact BK171.out) hg (Kd.R_ne HO_9.out BK171.out (by decide))); have n1_ := qad.mk (qbo (g := gb172) (o := .cells #[.slice (some ad180) l1_0.length c1_0] 36 (0, 0)) (by (with_reducible repeat (first | refine qai ?_ _ | refine qaj ?_ | refine qah ?_ _)); exact BK172.out) hg (Kd.R_ne HO_9.out BK172.out (by decide))); have n2_ := qad.mk (hb); have n3_ := qad.mk (ho); clear BK171; clear BK172; clear HB; clear HO_9; have BK171 := n0_; have BK172 := n1_; have HB := n2_; have HO188 := n3_; clear n0_ n1_ n2_ n3_; clear ho hb hg hat; have hcz39_0 : w38.cell? ⟨gb171, 0, none⟩ = some (.int .i64 a0_0) := (qag BK171.out 0).trans rfl; have hcz39_1 : w38.cell? ⟨gb171, 1, none⟩ = some (.int .i64 a0_1) := (qag BK171.out 1).trans rfl; have hcz39_2 : w38.cell? ⟨gb171, 2, none⟩ = some (.slice A0_2 l0_2.length c0_2) := (qag BK171.out 2).trans rfl; have hfz39_0 := qaf BK171.out 0; have hfz39_1 := qaf BK171.out 1; have hfz39_2 := qaf BK171.out 2) | ((with_reducible refine qan (f := 130) rfl ?_); refine qay (some 62) rfl rfl Try.func130 (by kernel_rfl) rfl #[.agg #[.int .i64 a0_0, .int .i64 a0_1], .int .i64 x11_1, .int .i64 (rd l1_0 (ji14))] rfl (by (try simp only [List.map_toArray, List.map_cons, List.map_nil]); first | done | (simp only [hji14]; rfl) | rfl | (simp only [List.length_drop, List.length_take]; rfl)) ?_; (with_reducible refine (spec_NextNode.calls a0_0 a0_1 x11_1 (rd l1_0 (ji14)) t189 _ A32.out).mono ?_); rintro e w40 ⟨rfl, hb⟩; refine ⟨_, rfl, ?_⟩; have n0_ := qad.mk (Kd.qax (by (with_reducible repeat (first | apply Kd.qap | apply Kd.qao | apply Kd.qas)); exact HO188.out) hb); have n1_ := qad.mk (qam (g := gb171) (o := .cells #[.int .i64 a0_0, .int .i64 a0_1, .slice A0_2 l0_2.length c0_2] 34 (0, 0)) (by (with_reducible repeat (first | refine qai ?_ _ | refine qaj ?_ | refine qah ?_ _)); exact BK171.out) hb); have n2_ := qad.mk (qam (g := gb172) (o := .cells #[.slice (some ad180) l1_0.length c1_0] 36 (0, 0)) (by (with_reducible repeat (first | refine qai ?_ _ | refine qaj ?_ | refine qah ?_ _)); exact BK172.out) hb); have n3_ := qad.mk (qak (by repeat (first | (with_reducible first | exact HB.out | apply qac | apply qaa | apply qab | refine qae ?_ GE171.out | refine qae ?_ GE172.out) | exact HB.out)) hb); clear HO188; clear BK171; clear BK172; clear HB; have HO188 := n0_; have BK171 := n1_; have BK172 := n2_; have HB := n3_; clear n0_ n1_ n2_ n3_; (try clear hb); (try clear hb2); (try clear hk); (try clear hi)))
          go_roundg k1
          case measure => have := HK1.out; omega
          case rel => exact ⟨(y186), (t189), (by first | rfl | (simp; done) | (simp [*]; done)), H', ⟨by have := HK1.out; omega⟩, ⟨by (with_reducible repeat (first | apply Kd.qap | apply Kd.qao | apply Kd.qas)); exact HO188.out⟩, ⟨by (with_reducible repeat (first | refine qai ?_ _ | refine qaj ?_ | refine qah ?_ _)); exact BK171.out⟩, ⟨by (with_reducible repeat (first | refine qai ?_ _ | refine qaj ?_ | refine qah ?_ _)); exact BK172.out⟩, ⟨by repeat (first | (with_reducible first | exact HB.out | apply qac | apply qaa | apply qab | refine qae ?_ GE171.out | refine qae ?_ GE172.out) | exact HB.out)⟩⟩
         ·rw [if_neg c31] at H
          exact absurd H (by simp)
        ·replace c30 := Bool.eq_false_iff.mpr c30
         subst c30
         have H1 := H
         rw [if_neg (show ¬ (false = true) by decide)] at H1
         clear H
         have H := H1
         clear H1
         obtain ⟨y190, hy190⟩ : ∃ y_ : List Int, y_ = (([] : List Int)) := ⟨_, rfl⟩
         replace H : (some y190) = some r := by first | (rw [hy190]; with_reducible exact H) | (have H2_ := (Option.bind_some _ _).symm.trans H; rw [hy190]; with_reducible exact H2_) | (have H2_ := (Option.bind_some _ _).symm.trans H; with_reducible exact H2_) | with_reducible exact H | (rw [hy190]; exact H) | exact H
         have Ny190 := qad.mk hy190
         clear hy190
         obtain rfl := Option.some.inj H
         obtain ⟨Ao41, co41, eo41⟩ := Kd.qbg HO_9.out
         subst eo41
         have hnb42 := NB172_171.out
         have hnc42 := NB171_172.out
         have hcz43_0 : wr.cell? ⟨gb172, 0, none⟩ = some (.slice A1_0 l1_0.length c1_0) := (qag BK172.out 0).trans rfl
         have hfz43_0 := qaf BK172.out 0
         have p180 : 0 ≤ ((ji14) : Int) := of_decide_eq_true (by first | (with_reducible assumption) | assumption)
         have q180 : (ji14) < (l1_0.length : Int) := of_decide_eq_true (by first | (with_reducible assumption) | assumption)
         obtain ⟨ad180, e180, hx180_0⟩ := Kd.qbh HR1_0.out (ji14) p180 q180
         cases e180
         replace hx180_0 := (HB.out.cell (World.block_lt_of_cell? w _ hx180_0)).trans hx180_0
         replace p180 := eq_true p180
         replace q180 := eq_true q180
         go_wp2_with (first | ((with_reducible refine qan (f := 128) rfl ?_); refine qay (some 39) rfl rfl Try.func128 (by kernel_rfl) rfl #[.int .i64 (rd l1_0 (ji14)), .int .i64 0, .int .i64 3] rfl (by (try simp only [List.map_toArray, List.map_cons, List.map_nil]); first | done | (simp only [hji14]; rfl) | rfl | (simp only [List.length_drop, List.length_take]; rfl)) ?_; (with_reducible refine (spec_l01In.calls (rd l1_0 (ji14)) 0 3 true _ A27.out).mono ?_); rintro e w' ⟨rfl, ⟨nd, rfl⟩⟩; refine ⟨_, rfl, ?_⟩; have hcz44_0 : wr.cell? ⟨gb171, 0, none⟩ = some (.int .i64 a0_0) := (qag BK171.out 0).trans rfl; have hcz44_1 : wr.cell? ⟨gb171, 1, none⟩ = some (.int .i64 a0_1) := (qag BK171.out 1).trans rfl; have hcz44_2 : wr.cell? ⟨gb171, 2, none⟩ = some (.slice A0_2 l0_2.length c0_2) := (qag BK171.out 2).trans rfl; have hfz44_0 := qaf BK171.out 0; have hfz44_1 := qaf BK171.out 1; have hfz44_2 := qaf BK171.out 2) | (go_at_call 129; (with_reducible refine (spec_l03Has.calls k1 a0_0 a0_1 _ _ l0_2 (wrap64 ((wrap64 (4 * x11_1)) + (rd l1_0 (ji14)))) false _ ?side1 ?side2 A29.out).mono ?_); (case side1 => repeat (first | exact (Kd.qaz HR0_2.out (by repeat (first | (with_reducible first | exact HB.out | apply qac | apply qaa | apply qab | refine qae ?_ GE171.out | refine qae ?_ GE172.out) | exact HB.out))) | (with_reducible first | refine Kd.qav ?_ _ | refine Kd.qau ?_ _ | refine Kd.qba ?_))); (case side2 => exact HC0_2.out); rintro e w45 ⟨rfl, hb⟩; have n0_ := qad.mk (Kd.qax (by (with_reducible repeat (first | apply Kd.qap | apply Kd.qao | apply Kd.qas)); exact HO_9.out) hb); have n1_ := qad.mk (qam (g := gb171) (o := .cells #[.int .i64 a0_0, .int .i64 a0_1, .slice A0_2 l0_2.length c0_2] 34 (0, 0)) (by (with_reducible repeat (first | refine qai ?_ _ | refine qaj ?_ | refine qah ?_ _)); exact BK171.out) hb); have n2_ := qad.mk (qam (g := gb172) (o := .cells #[.slice (some ad180) l1_0.length c1_0] 36 (0, 0)) (by (with_reducible repeat (first | refine qai ?_ _ | refine qaj ?_ | refine qah ?_ _)); exact BK172.out) hb); have n3_ := qad.mk (qak (by repeat (first | (with_reducible first | exact HB.out | apply qac | apply qaa | apply qab | refine qae ?_ GE171.out | refine qae ?_ GE172.out) | exact HB.out)) hb); clear HO_9; clear BK171; clear BK172; clear HB; have HO_9 := n0_; have BK171 := n1_; have BK172 := n2_; have HB := n3_; clear n0_ n1_ n2_ n3_; (try clear hb); (try clear hb2); (try clear hk); (try clear hi)) | ((with_reducible refine qar (N := 50) rfl ?_); refine Kd.R_lit (Kd.int .i64) _ 3 ?hg (N := 50) ?hd (xs := ([] : List Int)) (inner := []) (ok := fun _ => True) (okp := fun _ => True) ?hr ?hp (fun _ hk => hk) trivial (Below.refl _ _) (Nat.le_refl _) (by simp) ?_; (case hd => rfl); (case hg => rfl); (case hr => first | (go_simp; done) | (go_simp; rfl)); (case hp => exact (Reps.none _ _)); intro v191 w46 ho47 hb hg_ hnew_; clear hg_ hnew_; (first | rw [← Ny190.out] at ho47 | (simp only [Int.reduceToNat] at ho47; rw [← Ny190.out] at ho47)); have n0_ := qad.mk (Kd.qbf (by (with_reducible repeat (first | apply Kd.qap | apply Kd.qao | apply Kd.qas)); exact HO_9.out) (Kd.qbk ho47) hb); have n1_ := qad.mk (Kd.qbi (Kd.qbl ho47 (Kd.R_lt (by (with_reducible repeat (first | apply Kd.qap | apply Kd.qao | apply Kd.qas)); exact HO_9.out))) (qal (by repeat (first | (with_reducible first | exact HB.out | apply qac | apply qaa | apply qab | refine qae ?_ GE171.out | refine qae ?_ GE172.out) | exact HB.out)))); have n2_ := qad.mk (qam (g := gb171) (o := .cells #[.int .i64 a0_0, .int .i64 a0_1, .slice A0_2 l0_2.length c0_2] 34 (0, 0)) (by (with_reducible repeat (first | refine qai ?_ _ | refine qaj ?_ | refine qah ?_ _)); exact BK171.out) hb); have n3_ := qad.mk (qam (g := gb172) (o := .cells #[.slice (some ad180) l1_0.length c1_0] 36 (0, 0)) (by (with_reducible repeat (first | refine qai ?_ _ | refine qaj ?_ | refine qah ?_ _)); exact BK172.out) hb); have n4_ := qad.mk (qak (by repeat (first | (with_reducible first | exact HB.out | apply qac | apply qaa | apply qab | refine qae ?_ GE171.out | refine qae ?_ GE172.out) | exact HB.out)) hb); clear HO_9; clear BK171; clear BK172; clear HB; have HO_9 := n0_; have HO192 := n1_; have BK171 := n2_; have BK172 := n3_; have HB := n4_; clear n0_ n1_ n2_ n3_ n4_; clear hb ho47))
         go_ret
         exact ⟨_, by first | rfl | (simp [errW_none, errW_some] <;> rfl) | (simp only [← hji14]; first | rfl | (simp [errW_none, errW_some] <;> rfl)) | (simp [*, errW_none, errW_some] <;> rfl), by (with_reducible repeat (first | apply Kd.qap | apply Kd.qao | apply Kd.qas)); exact Kd.qbe HO192.out (fun _ hk => trivial), by repeat (first | (with_reducible first | exact HB.out | apply qac | apply qaa | apply qab | refine qae ?_ GE171.out | refine qae ?_ GE172.out) | exact HB.out)⟩
       ·replace c28 := Bool.eq_false_iff.mpr c28
        subst c28
        have H1 := H
        rw [if_neg (show ¬ (false = true) by decide)] at H1
        clear H
        have H := H1
        clear H1
        obtain ⟨y193, hy193⟩ : ∃ y_ : List Int, y_ = (([] : List Int)) := ⟨_, rfl⟩
        replace H : (some y193) = some r := by first | (rw [hy193]; with_reducible exact H) | (have H2_ := (Option.bind_some _ _).symm.trans H; rw [hy193]; with_reducible exact H2_) | (have H2_ := (Option.bind_some _ _).symm.trans H; with_reducible exact H2_) | with_reducible exact H | (rw [hy193]; exact H) | exact H
        have Ny193 := qad.mk hy193
        clear hy193
        obtain rfl := Option.some.inj H
        obtain ⟨Ao48, co48, eo48⟩ := Kd.qbg HO_9.out
        subst eo48
        have hnb49 := NB172_171.out
        have hnc49 := NB171_172.out
        have hcz50_0 : wr.cell? ⟨gb172, 0, none⟩ = some (.slice A1_0 l1_0.length c1_0) := (qag BK172.out 0).trans rfl
        have hfz50_0 := qaf BK172.out 0
        have p180 : 0 ≤ ((ji14) : Int) := of_decide_eq_true (by first | (with_reducible assumption) | assumption)
        have q180 : (ji14) < (l1_0.length : Int) := of_decide_eq_true (by first | (with_reducible assumption) | assumption)
        obtain ⟨ad180, e180, hx180_0⟩ := Kd.qbh HR1_0.out (ji14) p180 q180
        cases e180
        replace hx180_0 := (HB.out.cell (World.block_lt_of_cell? w _ hx180_0)).trans hx180_0
        replace p180 := eq_true p180
        replace q180 := eq_true q180
        go_wp2_with (first | ((with_reducible refine qan (f := 128) rfl ?_); refine qay (some 39) rfl rfl Try.func128 (by kernel_rfl) rfl #[.int .i64 (rd l1_0 (ji14)), .int .i64 0, .int .i64 3] rfl (by (try simp only [List.map_toArray, List.map_cons, List.map_nil]); first | done | (simp only [hji14]; rfl) | rfl | (simp only [List.length_drop, List.length_take]; rfl)) ?_; (with_reducible refine (spec_l01In.calls (rd l1_0 (ji14)) 0 3 false _ A27.out).mono ?_); rintro e w' ⟨rfl, ⟨nd, rfl⟩⟩; refine ⟨_, rfl, ?_⟩) | ((with_reducible refine qar (N := 50) rfl ?_); refine Kd.R_lit (Kd.int .i64) _ 3 ?hg (N := 50) ?hd (xs := ([] : List Int)) (inner := []) (ok := fun _ => True) (okp := fun _ => True) ?hr ?hp (fun _ hk => hk) trivial (Below.refl _ _) (Nat.le_refl _) (by simp) ?_; (case hd => rfl); (case hg => rfl); (case hr => first | (go_simp; done) | (go_simp; rfl)); (case hp => exact (Reps.none _ _)); intro v194 w51 ho52 hb hg_ hnew_; clear hg_ hnew_; (first | rw [← Ny193.out] at ho52 | (simp only [Int.reduceToNat] at ho52; rw [← Ny193.out] at ho52)); have n0_ := qad.mk (Kd.qbf (by (with_reducible repeat (first | apply Kd.qap | apply Kd.qao | apply Kd.qas)); exact HO_9.out) (Kd.qbk ho52) hb); have n1_ := qad.mk (Kd.qbi (Kd.qbl ho52 (Kd.R_lt (by (with_reducible repeat (first | apply Kd.qap | apply Kd.qao | apply Kd.qas)); exact HO_9.out))) (qal (by repeat (first | (with_reducible first | exact HB.out | apply qac | apply qaa | apply qab | refine qae ?_ GE171.out | refine qae ?_ GE172.out) | exact HB.out)))); have n2_ := qad.mk (qam (g := gb171) (o := .cells #[.int .i64 a0_0, .int .i64 a0_1, .slice A0_2 l0_2.length c0_2] 34 (0, 0)) (by (with_reducible repeat (first | refine qai ?_ _ | refine qaj ?_ | refine qah ?_ _)); exact BK171.out) hb); have n3_ := qad.mk (qam (g := gb172) (o := .cells #[.slice (some ad180) l1_0.length c1_0] 36 (0, 0)) (by (with_reducible repeat (first | refine qai ?_ _ | refine qaj ?_ | refine qah ?_ _)); exact BK172.out) hb); have n4_ := qad.mk (qak (by repeat (first | (with_reducible first | exact HB.out | apply qac | apply qaa | apply qab | refine qae ?_ GE171.out | refine qae ?_ GE172.out) | exact HB.out)) hb); clear HO_9; clear BK171; clear BK172; clear HB; have HO_9 := n0_; have HO195 := n1_; have BK171 := n2_; have BK172 := n3_; have HB := n4_; clear n0_ n1_ n2_ n3_ n4_; clear hb ho52))
        go_ret
        exact ⟨_, by first | rfl | (simp [errW_none, errW_some] <;> rfl) | (simp only [← hji14]; first | rfl | (simp [errW_none, errW_some] <;> rfl)) | (simp [*, errW_none, errW_some] <;> rfl), by (with_reducible repeat (first | apply Kd.qap | apply Kd.qao | apply Kd.qas)); exact Kd.qbe HO195.out (fun _ hk => trivial), by repeat (first | (with_reducible first | exact HB.out | apply qac | apply qaa | apply qab | refine qae ?_ GE171.out | refine qae ?_ GE172.out) | exact HB.out)⟩
     ·rw [if_neg c16] at H
      exact absurd H (by simp)
    ·rw [if_neg c15] at H
     exact absurd H (by simp)
   ·rw [if_neg c13] at H
    have c13b0 : decide ((x9_1.length : Int) ≤ t176) = false := decide_eq_false c13
    clear c13
    obtain ⟨y177, hy177⟩ : ∃ y_ : List Int, y_ = (([] : List Int)) := ⟨_, rfl⟩
    replace H : (some y177) = some r := by first | (rw [hy177]; with_reducible exact H) | (have H2_ := (Option.bind_some _ _).symm.trans H; rw [hy177]; with_reducible exact H2_) | (have H2_ := (Option.bind_some _ _).symm.trans H; with_reducible exact H2_) | with_reducible exact H | (rw [hy177]; exact H) | exact H
    have Ny177 := qad.mk hy177
    clear hy177
    obtain rfl := Option.some.inj H
    obtain ⟨Ao53, co53, eo53⟩ := Kd.qbg HO_9.out
    subst eo53
    go_wp2_with (first | ((with_reducible refine qar (N := 63) rfl ?_); refine Kd.R_lit (Kd.int .i64) _ 3 ?hg (N := 63) ?hd (xs := ([] : List Int)) (inner := []) (ok := fun _ => True) (okp := fun _ => True) ?hr ?hp (fun _ hk => hk) trivial (Below.refl _ _) (Nat.le_refl _) (by simp) ?_; (case hd => rfl); (case hg => rfl); (case hr => first | (go_simp; done) | (go_simp; rfl)); (case hp => exact (Reps.none _ _)); intro v178 w54 ho55 hb hg_ hnew_; clear hg_ hnew_; (first | rw [← Ny177.out] at ho55 | (simp only [Int.reduceToNat] at ho55; rw [← Ny177.out] at ho55)); have n0_ := qad.mk (Kd.qbf (by (with_reducible repeat (first | apply Kd.qap | apply Kd.qao | apply Kd.qas)); exact HO_9.out) (Kd.qbk ho55) hb); have n1_ := qad.mk (Kd.qbi (Kd.qbl ho55 (Kd.R_lt (by (with_reducible repeat (first | apply Kd.qap | apply Kd.qao | apply Kd.qas)); exact HO_9.out))) (qal (by repeat (first | (with_reducible first | exact HB.out | apply qac | apply qaa | apply qab | refine qae ?_ GE171.out | refine qae ?_ GE172.out) | exact HB.out)))); have n2_ := qad.mk (qam (g := gb171) (o := .cells #[.int .i64 a0_0, .int .i64 a0_1, .slice A0_2 l0_2.length c0_2] 34 (0, 0)) (by (with_reducible repeat (first | refine qai ?_ _ | refine qaj ?_ | refine qah ?_ _)); exact BK171.out) hb); have n3_ := qad.mk (qam (g := gb172) (o := .cells #[.slice A1_0 l1_0.length c1_0] 36 (0, 0)) (by (with_reducible repeat (first | refine qai ?_ _ | refine qaj ?_ | refine qah ?_ _)); exact BK172.out) hb); have n4_ := qad.mk (qak (by repeat (first | (with_reducible first | exact HB.out | apply qac | apply qaa | apply qab | refine qae ?_ GE171.out | refine qae ?_ GE172.out) | exact HB.out)) hb); clear HO_9; clear BK171; clear BK172; clear HB; have HO_9 := n0_; have HO179 := n1_; have BK171 := n2_; have BK172 := n3_; have HB := n4_; clear n0_ n1_ n2_ n3_ n4_; clear hb ho55))
    go_ret
    exact ⟨_, by first | rfl | (simp [errW_none, errW_some] <;> rfl) | (simp [*, errW_none, errW_some] <;> rfl), by (with_reducible repeat (first | apply Kd.qap | apply Kd.qao | apply Kd.qas)); exact Kd.qbe HO179.out (fun _ hk => trivial), by repeat (first | (with_reducible first | exact HB.out | apply qac | apply qaa | apply qab | refine qae ?_ GE171.out | refine qae ?_ GE172.out) | exact HB.out)⟩


end Go.Proofs.Ytmfkgnfjjfnfmaa.XD
