/- What is proved: contracts of functions of the program (each: where its Lean function answers, the call returns that answer); written by a program of this session. -/
import Derived.Test.YtmfkgnfjjfnfmaaXV0
import Derived.Test.YtmfkgnfjjfnfmaaXV1
import Derived.Test.YtmfkgnfjjfnfmaaXV2
import Derived.Test.YtmfkgnfjjfnfmaaXV4
import Derived.Test.YtmfkgnfjjfnfmaaXV5
import Derived.Test.YtmfkgnfjjfnfmaaXV6
import Derived.Test.YtmfkgnfjjfnfmaaXV7
namespace Go.Proofs.Ytmfkgnfjjfnfmaa.XV
open Go.RowKit Go.Proofs.YtmfkgnfjjfnfmaaW.PrintWords Go.Proofs.YtmfkgnfjjfnfmaaW.PrintLast Go.Proofs.YtmfkgnfjjfnfmaaW.PrintMore
attribute [local go_sem] qcg qce qck qcj qbz qby qcf qcd   -- for this text's walks alone
set_option linter.unusedVariables false
set_option linter.unusedSimpArgs false

attribute [local go_sem high] eqA83
/-! ### impl_ShiftDepends: function 70 -/
mutual
def impl_ShiftDepends.j0 : Nat → List (S83) → Int → Bool → Option ((List (S83)))
 | 0, _, _, _ => none
 | k + 1, x0, x1, x15 => if x15 = true then (some ([] : List (S83))) else (impl_ShiftDepends.l0 k x1 (([] : List (S83))) x0 (x0.length : Int) 0)
def impl_ShiftDepends.l0 : Nat → Int → List (S83) → List (S83) → Int → Int → Option ((List (S83)))
 | 0, _, _, _, _, _ => none
 | k + 1, x1, x5, x17, x18, x19 => if x19 < x18 then (if 0 ≤ x19 then (if x19 < (x17.length : Int) then (if x5.length < 8796093022208 then (impl_ShiftDepends.l0 k x1 (x5 ++ [(⟨wrap64 (((rd_T83 x17 x19).f0) + x1), wrap64 (((rd_T83 x17 x19).f1) + x1)⟩ : S83)]) x17 x18 (wrap64 (x19 + 1))) else (none)) else (none)) else (none)) else ((impl_DependsOk.f k x5).bind fun t344 => (if t344 = true then (some x5) else (some ([] : List (S83)))))
end
def impl_ShiftDepends.f (k : Nat) (l0 : List (S83)) (a1 : Int) : Option ((List (S83))) := (impl_DependsOk.f k l0).bind fun t334 => (if t334 = true then ((impl_inside.f a1 (-1000) 1000).bind fun t335 => (impl_ShiftDepends.j0 k l0 a1 (!t335))) else (impl_ShiftDepends.j0 k l0 a1 true))
theorem impl_ShiftDepends.mono_l : ∀ k, (∀ y0 y1 y2, LeO (impl_ShiftDepends.j0 k y0 y1 y2) (impl_ShiftDepends.j0 (k + 1) y0 y1 y2)) ∧ (∀ y0 y1 y2 y3 y4, LeO (impl_ShiftDepends.l0 k y0 y1 y2 y3 y4) (impl_ShiftDepends.l0 (k + 1) y0 y1 y2 y3 y4))
 | 0 => ⟨fun _ _ _ r h => by simp [impl_ShiftDepends.j0] at h, fun _ _ _ _ _ r h => by simp [impl_ShiftDepends.l0] at h⟩
 | k + 1 => by
  obtain ⟨ih0, ih1⟩ := impl_ShiftDepends.mono_l k
  refine ⟨?_, ?_⟩
  ·intro y0 y1 y2
   unfold impl_ShiftDepends.j0
   repeat' first
   | (with_reducible exact ih0 _ _ _)
   | (with_reducible exact ih1 _ _ _ _ _)
   | (with_reducible exact impl_DependsOk.mono _ _)
   | (with_reducible exact LeO.refl _)
   | (with_reducible exact LeO.none _)
   | (with_reducible refine LeO.ite ?_ ?_)
   | (with_reducible refine LeO.bind ?_ (fun _ => ?_))
   | exact ih0 _ _ _
   | exact ih1 _ _ _ _ _
   | exact impl_DependsOk.mono _ _
   | exact LeO.none _
   | refine LeO.ite ?_ ?_
   | refine LeO.bind ?_ (fun _ => ?_)
  ·intro y0 y1 y2 y3 y4
   unfold impl_ShiftDepends.l0
   repeat' first
   | (with_reducible exact ih0 _ _ _)
   | (with_reducible exact ih1 _ _ _ _ _)
   | (with_reducible exact impl_DependsOk.mono _ _)
   | (with_reducible exact LeO.refl _)
   | (with_reducible exact LeO.none _)
   | (with_reducible refine LeO.ite ?_ ?_)
   | (with_reducible refine LeO.bind ?_ (fun _ => ?_))
   | exact ih0 _ _ _
   | exact ih1 _ _ _ _ _
   | exact impl_DependsOk.mono _ _
   | exact LeO.none _
   | refine LeO.ite ?_ ?_
   | refine LeO.bind ?_ (fun _ => ?_)
theorem impl_ShiftDepends.mono : ∀ a0 a1 k, LeO (impl_ShiftDepends.f k a0 a1) (impl_ShiftDepends.f (k + 1) a0 a1) := by
 intro a0 a1 k
 obtain ⟨ih0, ih1⟩ := impl_ShiftDepends.mono_l k
 unfold impl_ShiftDepends.f
 repeat' first
   | (with_reducible exact ih0 _ _ _)
   | (with_reducible exact ih1 _ _ _ _ _)
   | (with_reducible exact impl_DependsOk.mono _ _)
   | (with_reducible exact LeO.refl _)
   | (with_reducible exact LeO.none _)
   | (with_reducible refine LeO.ite ?_ ?_)
   | (with_reducible refine LeO.bind ?_ (fun _ => ?_))
   | exact ih0 _ _ _
   | exact ih1 _ _ _ _ _
   | exact impl_DependsOk.mono _ _
   | exact LeO.none _
   | refine LeO.ite ?_ ?_
   | refine LeO.bind ?_ (fun _ => ?_)
set_option maxHeartbeats 8000000 in
set_option maxRecDepth 100000 in
theorem impl_ShiftDepends.calls (k : Nat) (A0 : Option Addr) (c0 : Nat) (l0 : List (S83)) (a1 : Int) (r : List (S83)) (w : World) (hr0 : Kd.C k83 w A0 l0.length l0) (hc0 : l0.length ≤ c0) (h : impl_ShiftDepends.f k l0 a1 = some r) :
  Calls Try.prog 70 #[.slice A0 l0.length c0, .int .i64 a1] w fun e w' => ∃ v0_ : Value, e = .returned (v0_) ∧ Kd.R k83 83 w' w.heap.size (fun _ => True) v0_ r ∧ Below w.heap.size w w' := by
 have hu83 := Try.underlying83
 have HR0 := qab.mk hr0
 have HC0 := qab.mk hc0
 clear hr0 hc0
 have HB := qab.mk (Below.refl w.heap.size w)
 have H : ((impl_DependsOk.f k l0).bind fun t334 => (if t334 = true then ((impl_inside.f a1 (-1000) 1000).bind fun t335 => (impl_ShiftDepends.j0 k l0 a1 (!t335))) else (impl_ShiftDepends.j0 k l0 a1 true))) = some r := h
 clear h
 have HC3 := qab.mk H
 clear H
 go_enter Try.func70, Try.ntmps70
 go_upto_region 1 with (fail)
 go_cut [15] (fun v15 wc => ∃ (kq : Nat) (x15_2 : Bool), v15 = .bool x15_2 ∧ qab (impl_ShiftDepends.j0 kq l0 a1 x15_2 = some r) ∧ qab (kq ≤ k) ∧ qab (Below w.heap.size w wc))
 case first =>
  have H := HC3.out
  clear HC3
  replace H := Option.bind_eq_some_iff.mp H
  obtain ⟨t334, A40, H⟩ := H
  try dsimp only at H
  have A4 := qab.mk A40
  clear A40
  by_cases c5 : t334 = true
  ·subst c5
   have H1 := H
   rw [if_pos rfl] at H1
   clear H
   have H := H1
   clear H1
   replace H := Option.bind_eq_some_iff.mp H
   obtain ⟨t335, A60, H⟩ := H
   try dsimp only at H
   have A6 := qab.mk A60
   clear A60
   have H' := qab.mk H
   clear H
   go_wp2_with (first | ((with_reducible refine qaq (f := 65) rfl ?_); refine qbe (some 9) rfl rfl Try.func65 (by kernel_rfl) rfl #[.slice A0 l0.length c0] rfl (by (try simp only [List.map_toArray, List.map_cons, List.map_nil]); first | done | rfl | (simp only [List.length_drop, List.length_take]; rfl)) ?_; (with_reducible refine (impl_DependsOk.calls k _ _ l0 true _ ?side1 ?side2 A4.out).mono ?_); (case side1 => repeat (first | exact (Kd.qbf HR0.out HB.out) | (with_reducible first | refine Kd.qaz ?_ _ | refine Kd.qay ?_ _ | refine Kd.qbd ?_))); (case side2 => exact HC0.out); rintro e w7 ⟨rfl, hb⟩; refine ⟨_, rfl, ?_⟩; have n0_ := qab.mk (qak (by repeat (first | (with_reducible first | exact HB.out | apply qad | apply qaa | apply qac) | exact HB.out)) hb); clear HB; have HB := n0_; clear n0_; (try clear hb); (try clear hb2); (try clear hk); (try clear hi)) | (go_at_call 98; (with_reducible refine (impl_inside.calls a1 (-1000) 1000 t335 _ A6.out).mono ?_); rintro e w' ⟨rfl, ⟨nd, rfl⟩⟩))
   go_meet
   case rel => exact ⟨_, (!t335), (by first | rfl | (simp; done) | (simp [*]; done)), H', ⟨by first | omega | exact Nat.le_refl _⟩, ⟨by repeat (first | (with_reducible first | exact HB.out | apply qad | apply qaa | apply qac) | exact HB.out)⟩⟩
  ·replace c5 := Bool.eq_false_iff.mpr c5
   subst c5
   have H1 := H
   rw [if_neg (show ¬ (false = true) by decide)] at H1
   clear H
   have H := H1
   clear H1
   have H' := qab.mk H
   clear H
   go_wp2_with (first | ((with_reducible refine qaq (f := 65) rfl ?_); refine qbe (some 9) rfl rfl Try.func65 (by kernel_rfl) rfl #[.slice A0 l0.length c0] rfl (by (try simp only [List.map_toArray, List.map_cons, List.map_nil]); first | done | rfl | (simp only [List.length_drop, List.length_take]; rfl)) ?_; (with_reducible refine (impl_DependsOk.calls k _ _ l0 false _ ?side1 ?side2 A4.out).mono ?_); (case side1 => repeat (first | exact (Kd.qbf HR0.out HB.out) | (with_reducible first | refine Kd.qaz ?_ _ | refine Kd.qay ?_ _ | refine Kd.qbd ?_))); (case side2 => exact HC0.out); rintro e w8 ⟨rfl, hb⟩; refine ⟨_, rfl, ?_⟩; have n0_ := qab.mk (qak (by repeat (first | (with_reducible first | exact HB.out | apply qad | apply qaa | apply qac) | exact HB.out)) hb); clear HB; have HB := n0_; clear n0_; (try clear hb); (try clear hb2); (try clear hk); (try clear hi)))
   go_meet
   case rel => exact ⟨_, (true), (by first | rfl | (simp; done) | (simp [*]; done)), H', ⟨by first | omega | exact Nat.le_refl _⟩, ⟨by repeat (first | (with_reducible first | exact HB.out | apply qad | apply qaa | apply qac) | exact HB.out)⟩⟩
 case rest =>
  clear HC3
  try clear p2
  try clear c5
  try clear c6
  try clear c7
  obtain ⟨kq, x15_2, rfl, HA, HJ2, HB⟩ := hcut
  cases kq with
  | zero => exact absurd HA.out (by simp [impl_ShiftDepends.j0])
  | succ kj2 =>
   have H := HA.out
   clear HA
   simp only [impl_ShiftDepends.j0] at H
   by_cases c9 : x15_2 = true
   ·subst c9
    have H1 := H
    rw [if_pos rfl] at H1
    clear H
    have H := H1
    clear H1
    obtain rfl := Option.some.inj H
    go_wp2
    go_ret
    exact ⟨_, by first | rfl | (simp [errW_none, errW_some] <;> rfl) | (simp [*, errW_none, errW_some] <;> rfl), by first | exact Kd.R_nil _ _ _ _ _ | exact Kd.N_nil _ _ _ _ _ | exact Kd.V_nil _ _ _ _ _ | exact Kd.Q_nil _ _ _ _ _ | exact Kd.S_nil _ _ _ _ _, by repeat (first | (with_reducible first | exact HB.out | apply qad | apply qaa | apply qac) | exact HB.out)⟩
   ·replace c9 := Bool.eq_false_iff.mpr c9
    subst c9
    have H1 := H
    rw [if_neg (show ¬ (false = true) by decide)] at H1
    clear H
    have H := H1
    clear H1
    obtain ⟨y336, hy336⟩ : ∃ y_ : List (S83), y_ = (([] : List (S83))) := ⟨_, rfl⟩
    replace H : (impl_ShiftDepends.l0 kj2 a1 y336 l0 (l0.length : Int) 0) = some r := by first | (rw [hy336]; with_reducible exact H) | (have H2_ := (Option.bind_some _ _).symm.trans H; rw [hy336]; with_reducible exact H2_) | (have H2_ := (Option.bind_some _ _).symm.trans H; with_reducible exact H2_) | with_reducible exact H | (rw [hy336]; exact H) | exact H
    have Ny336 := qab.mk hy336
    clear hy336
    have H' := qab.mk H
    clear H
    go_wp2_with (first | ((with_reducible refine qas (N := 16) rfl ?_); refine Kd.R_lit k83 _ 83 ?hg (N := 16) ?hd (xs := ([] : List (S83))) (inner := []) (ok := fun _ => True) (okp := fun _ => True) ?hr ?hp (fun _ hk => hk) trivial (Below.refl _ _) (Nat.le_refl _) (by simp) ?_; (case hd => rfl); (case hg => rfl); (case hr => first | (go_simp; done) | (go_simp; rfl)); (case hp => exact (Reps.none _ _)); intro v337 w10 ho11 hb hg_ hnew_; clear hg_ hnew_; (first | rw [← Ny336.out] at ho11 | (simp only [Int.reduceToNat] at ho11; rw [← Ny336.out] at ho11)); have n0_ := qab.mk (Kd.qbm ho11 (qal (by repeat (first | (with_reducible first | exact HB.out | apply qad | apply qaa | apply qac) | exact HB.out)))); have n1_ := qab.mk (qak (by repeat (first | (with_reducible first | exact HB.out | apply qad | apply qaa | apply qac) | exact HB.out)) hb); clear HB; have HO338 := n0_; have HB := n1_; clear n0_ n1_; clear hb ho11))
    go_loopg [5, 19] kj2 (fun kq v5 v19 w' => ∃ (x5_2 : List (S83)) (x19_2 : Int), v19 = .int .i64 x19_2 ∧ qab (impl_ShiftDepends.l0 kq a1 x5_2 l0 (l0.length : Int) x19_2 = some r) ∧ qab (kq ≤ kj2) ∧ qab (Kd.R k83 83 w' w.heap.size (fun _ => True) v5 x5_2) ∧ qab (Below w.heap.size w w'))
    case atStart => exact ⟨(y336), (0), (by first | rfl | (simp; done) | (simp [*]; done)), H', ⟨Nat.le_refl _⟩, ⟨by (with_reducible repeat (first | apply Kd.qao | apply Kd.qan | apply Kd.qap)); exact HO338.out⟩, ⟨by repeat (first | (with_reducible first | exact HB.out | apply qad | apply qaa | apply qac) | exact HB.out)⟩⟩
    case round =>
     clear H'
     try clear p2
     try clear c5
     try clear c6
     try clear c7
     try clear c9
     try clear p2
     obtain ⟨x5_2, x19_2, rfl, HA, HK2, HO_5, HB⟩ := hrel
     cases gk with
     | zero => exact absurd HA.out (by simp [impl_ShiftDepends.l0])
     | succ k2 =>
      have H := HA.out
      clear HA
      simp only [impl_ShiftDepends.l0] at H
      by_cases c12 : x19_2 < (l0.length : Int)
      ·rw [if_pos c12] at H
       have c12b0 : decide (x19_2 < (l0.length : Int)) = true := decide_eq_true c12
       clear c12
       by_cases c13 : 0 ≤ x19_2
       ·rw [if_pos c13] at H
        have c13b0 : decide (0 ≤ x19_2) = true := decide_eq_true c13
        clear c13
        by_cases c14 : x19_2 < (l0.length : Int)
        ·rw [if_pos c14] at H
         have c14b0 : decide (x19_2 < (l0.length : Int)) = true := decide_eq_true c14
         clear c14
         by_cases c15 : x5_2.length < 8796093022208
         ·rw [if_pos c15] at H
          have LMc15 := qab.mk c15
          clear c15
          obtain ⟨y341, hy341⟩ : ∃ y_ : List (S83), y_ = (x5_2 ++ [(⟨wrap64 (((rd_T83 l0 x19_2).f0) + a1), wrap64 (((rd_T83 l0 x19_2).f1) + a1)⟩ : S83)]) := ⟨_, rfl⟩
          replace H : (impl_ShiftDepends.l0 k2 a1 y341 l0 (l0.length : Int) (wrap64 (x19_2 + 1))) = some r := by first | (rw [hy341]; with_reducible exact H) | (have H2_ := (Option.bind_some _ _).symm.trans H; rw [hy341]; with_reducible exact H2_) | (have H2_ := (Option.bind_some _ _).symm.trans H; with_reducible exact H2_) | with_reducible exact H | (rw [hy341]; exact H) | exact H
          have Ny341 := qab.mk hy341
          clear hy341
          have H' := qab.mk H
          clear H
          have p339 : 0 ≤ (x19_2 : Int) := of_decide_eq_true (by first | (with_reducible assumption) | assumption)
          have q339 : x19_2 < (l0.length : Int) := of_decide_eq_true (by first | (with_reducible assumption) | assumption)
          obtain ⟨ad339, e339, hx339_0, hx339_1⟩ := at_T83 HR0.out x19_2 p339 q339
          cases e339
          replace hx339_0 := (HB.out.cell (World.block_lt_of_cell? w _ hx339_0)).trans hx339_0
          replace hx339_1 := (HB.out.cell (World.block_lt_of_cell? w _ hx339_1)).trans hx339_1
          replace p339 := eq_true p339
          replace q339 := eq_true q339
          go_wp2_with (first | ((with_reducible refine qas (N := 7) rfl ?_); refine qar ?hg (N := 7) ?hd (cs := #[.int .i64 0, .int .i64 0]) (t := 83) ?hr ?_; (case hd => rfl); (case hg => rfl); (case hr => first | (go_simp; done) | (go_simp; rfl)); intro gb340 hg w16 hbox hb; have n0_ := qab.mk (Kd.qav (Kd.qda (by (with_reducible repeat (first | apply Kd.qao | apply Kd.qan | apply Kd.qap)); exact HO_5.out) gb340 (Nat.le_of_eq hg.symm)) hb); have n1_ := qab.mk (qak (by repeat (first | (with_reducible first | exact HB.out | apply qad | apply qaa | apply qac) | exact HB.out)) hb); have n2_ := qab.mk (hbox); have n3_ := qab.mk ((by rw [hg]; exact (qal (by repeat (first | (with_reducible first | exact HB.out | apply qad | apply qaa | apply qac) | exact HB.out))) : w.heap.size ≤ gb340)); have n4_ := qab.mk ((by rw [hg]; exact (qal (by repeat (first | (with_reducible first | exact HB.out | apply qad | apply qaa | apply qac) | exact HB.out))) : w.heap.size ≤ gb340)); clear HO_5; clear HB; have HO_5 := n0_; have HB := n1_; have BK340 := n2_; have GW340 := n3_; have GE340 := n4_; clear n0_ n1_ n2_ n3_ n4_; clear hb hbox hg; have hcz17_0 : w16.cell? ⟨gb340, 0, none⟩ = some (.int .i64 0) := (qai BK340.out 0).trans rfl; have hcz17_1 : w16.cell? ⟨gb340, 1, none⟩ = some (.int .i64 0) := (qai BK340.out 1).trans rfl; have hfz17_0 := qah BK340.out 0; have hfz17_1 := qah BK340.out 1) | ((with_reducible refine qbs (b := .append) (xs := #[.tmp 23, .tmp 33]) rfl ?_); at_builtin; refine Kd.qcn k83 (w0 := w) w.heap.size rfl (.tmp 23) (.tmp 33) 48 83 (.agg #[(.int .i64 0), (.int .i64 0)]) 16 rfl Try.underlying48 info83 rfl (by decide) (by omega) u5 x5_2 (⟨wrap64 (((rd_T83 l0 x19_2).f0) + a1), wrap64 (((rd_T83 l0 x19_2).f1) + a1)⟩ : S83) [.int .i64 (wrap64 (((rd_T83 l0 x19_2).f0) + a1)), .int .i64 (wrap64 (((rd_T83 l0 x19_2).f1) + a1))] (fun k_ => k_ ≠ gb340) (fun _ => False) rfl (by first | (go_simp; done) | (go_simp; rfl)) ?aP (fun _ hk => hk.elim) ?aF ?aO ?aB ?aS ?aL ?_; (case aP => exact k83_mkM _ _ _ (⟨wrap64 (((rd_T83 l0 x19_2).f0) + a1), wrap64 (((rd_T83 l0 x19_2).f1) + a1)⟩ : S83)); (case aB => exact (by repeat (first | (with_reducible first | exact HB.out | apply qad | apply qaa | apply qac | refine qae ?_ GE340.out) | exact HB.out))); (case aF => exact (fun k_ hk => Kd.freshB (g := gb340) (o := .cells #[.int .i64 ((rd_T83 l0 x19_2).f0), .int .i64 ((rd_T83 l0 x19_2).f1)] 83 (0, 0)) (by (with_reducible repeat (first | refine qag ?_ _ | refine qaj ?_ | refine qaf ?_ _)); refine qbi (cs := #[.int .i64 ((rd_T83 l0 x19_2).f0), .int .i64 0]) ?_ 1 _ rfl; (with_reducible repeat (first | refine qag ?_ _ | refine qaj ?_ | refine qaf ?_ _)); refine qbi (cs := #[.int .i64 0, .int .i64 0]) ?_ 0 _ rfl; (with_reducible repeat (first | refine qag ?_ _ | refine qaj ?_ | refine qaf ?_ _)); exact BK340.out) k_ hk)); (case aO => exact (by (with_reducible repeat (first | apply Kd.qao | apply Kd.qan | apply Kd.qap)); exact Kd.qbb (Kd.R_far (p := ⟨gb340, 1, none⟩) (Kd.R_far (p := ⟨gb340, 0, none⟩) (Kd.qbb HO_5.out (fun k_ hk => (⟨hk, hk.2⟩ : _ ∧ k_ ≠ gb340))) (fun _ hk => hk.2) (.int .i64 ((rd_T83 l0 x19_2).f0))) (fun _ hk => hk.2) (.int .i64 ((rd_T83 l0 x19_2).f1))) (fun _ hk => hk.1.2))); (case aS => exact (qal (by repeat (first | (with_reducible first | exact HB.out | apply qad | apply qaa | apply qac | refine qae ?_ GE340.out) | exact HB.out)))); (case aL => have := LMc15.out; omega); intro v342 w18 ho hb hg hat; rw [← Ny341.out] at ho; have n0_ := qab.mk (qbr (g := gb340) (o := .cells #[.int .i64 ((rd_T83 l0 x19_2).f0), .int .i64 ((rd_T83 l0 x19_2).f1)] 83 (0, 0)) (by (with_reducible repeat (first | refine qag ?_ _ | refine qaj ?_ | refine qaf ?_ _)); refine qbi (cs := #[.int .i64 ((rd_T83 l0 x19_2).f0), .int .i64 0]) ?_ 1 _ rfl; (with_reducible repeat (first | refine qag ?_ _ | refine qaj ?_ | refine qaf ?_ _)); refine qbi (cs := #[.int .i64 0, .int .i64 0]) ?_ 0 _ rfl; (with_reducible repeat (first | refine qag ?_ _ | refine qaj ?_ | refine qaf ?_ _)); exact BK340.out) hg (Kd.qcs HO_5.out (fun _ hk => hk.2))); have n1_ := qab.mk (hb); have n2_ := qab.mk (ho); clear BK340; clear HB; clear HO_5; have BK340 := n0_; have HB := n1_; have HO343 := n2_; clear n0_ n1_ n2_; clear ho hb hg hat))
          go_roundg k2
          case measure => have := HJ2.out; have := HK2.out; omega
          case rel => exact ⟨(y341), (wrap64 (x19_2 + 1)), (by first | rfl | (simp; done) | (simp [*]; done)), H', ⟨by have := HJ2.out; have := HK2.out; omega⟩, ⟨by (with_reducible repeat (first | apply Kd.qao | apply Kd.qan | apply Kd.qap)); exact Kd.qbb HO343.out (fun _ hk => trivial)⟩, ⟨by repeat (first | (with_reducible first | exact HB.out | apply qad | apply qaa | apply qac | refine qae ?_ GE340.out) | exact HB.out)⟩⟩
         ·rw [if_neg c15] at H
          exact absurd H (by simp)
        ·rw [if_neg c14] at H
         exact absurd H (by simp)
       ·rw [if_neg c13] at H
        exact absurd H (by simp)
      ·rw [if_neg c12] at H
       have c12b0 : decide (x19_2 < (l0.length : Int)) = false := decide_eq_false c12
       clear c12
       replace H := Option.bind_eq_some_iff.mp H
       obtain ⟨t344, A190, H⟩ := H
       try dsimp only at H
       have A19 := qab.mk A190
       clear A190
       by_cases c20 : t344 = true
       ·subst c20
        have H1 := H
        rw [if_pos rfl] at H1
        clear H
        have H := H1
        clear H1
        obtain rfl := Option.some.inj H
        obtain ⟨Ao21, co21, eo21⟩ := Kd.qbj HO_5.out
        subst eo21
        go_wp2_with (first | ((with_reducible refine qaq (f := 65) rfl ?_); refine qbe (some 37) rfl rfl Try.func65 (by kernel_rfl) rfl #[.slice Ao21 x5_2.length co21] rfl (by (try simp only [List.map_toArray, List.map_cons, List.map_nil]); first | done | rfl | (simp only [List.length_drop, List.length_take]; rfl)) ?_; (with_reducible refine (impl_DependsOk.calls k2 _ _ x5_2 true _ ?side1 ?side2 A19.out).mono ?_); (case side1 => repeat (first | exact (Kd.qau HO_5.out).2.2 | (with_reducible first | refine Kd.qaz ?_ _ | refine Kd.qay ?_ _ | refine Kd.qbd ?_))); (case side2 => exact (Kd.qau HO_5.out).2.1); rintro e w22 ⟨rfl, hb⟩; refine ⟨_, rfl, ?_⟩; have n0_ := qab.mk (Kd.qav (by (with_reducible repeat (first | apply Kd.qao | apply Kd.qan | apply Kd.qap)); exact HO_5.out) hb); have n1_ := qab.mk (qak (by repeat (first | (with_reducible first | exact HB.out | apply qad | apply qaa | apply qac) | exact HB.out)) hb); clear HO_5; clear HB; have HO_5 := n0_; have HB := n1_; clear n0_ n1_; (try clear hb); (try clear hb2); (try clear hk); (try clear hi)))
        go_ret
        exact ⟨_, by first | rfl | (simp [errW_none, errW_some] <;> rfl) | (simp [*, errW_none, errW_some] <;> rfl), by (with_reducible repeat (first | apply Kd.qao | apply Kd.qan | apply Kd.qap)); exact HO_5.out, by repeat (first | (with_reducible first | exact HB.out | apply qad | apply qaa | apply qac) | exact HB.out)⟩
       ·replace c20 := Bool.eq_false_iff.mpr c20
        subst c20
        have H1 := H
        rw [if_neg (show ¬ (false = true) by decide)] at H1
        clear H
        have H := H1
        clear H1
        obtain rfl := Option.some.inj H
        obtain ⟨Ao23, co23, eo23⟩ := Kd.qbj HO_5.out
        subst eo23
        go_wp2_with (first | ((with_reducible refine qaq (f := 65) rfl ?_); refine qbe (some 37) rfl rfl Try.func65 (by kernel_rfl) rfl #[.slice Ao23 x5_2.length co23] rfl (by (try simp only [List.map_toArray, List.map_cons, List.map_nil]); first | done | rfl | (simp only [List.length_drop, List.length_take]; rfl)) ?_; (with_reducible refine (impl_DependsOk.calls k2 _ _ x5_2 false _ ?side1 ?side2 A19.out).mono ?_); (case side1 => repeat (first | exact (Kd.qau HO_5.out).2.2 | (with_reducible first | refine Kd.qaz ?_ _ | refine Kd.qay ?_ _ | refine Kd.qbd ?_))); (case side2 => exact (Kd.qau HO_5.out).2.1); rintro e w24 ⟨rfl, hb⟩; refine ⟨_, rfl, ?_⟩; have n0_ := qab.mk (Kd.qav (by (with_reducible repeat (first | apply Kd.qao | apply Kd.qan | apply Kd.qap)); exact HO_5.out) hb); have n1_ := qab.mk (qak (by repeat (first | (with_reducible first | exact HB.out | apply qad | apply qaa | apply qac) | exact HB.out)) hb); clear HO_5; clear HB; have HO_5 := n0_; have HB := n1_; clear n0_ n1_; (try clear hb); (try clear hb2); (try clear hk); (try clear hi)))
        go_ret
        exact ⟨_, by first | rfl | (simp [errW_none, errW_some] <;> rfl) | (simp [*, errW_none, errW_some] <;> rfl), by first | exact Kd.R_nil _ _ _ _ _ | exact Kd.N_nil _ _ _ _ _ | exact Kd.V_nil _ _ _ _ _ | exact Kd.Q_nil _ _ _ _ _ | exact Kd.S_nil _ _ _ _ _, by repeat (first | (with_reducible first | exact HB.out | apply qad | apply qaa | apply qac) | exact HB.out)⟩


/-! ### laws_FnMerged: function 14 -/
mutual
def laws_FnMerged.j0 : Nat → List (S83) → List (S83) → List (S83) → List (S83) → List (S83) → List (S83) → Bool → Option (Bool)
 | 0, _, _, _, _, _, _, _ => none
 | k + 1, x3, x6, x7, x8, x9, x10, x53 => if x53 = true then (some false) else (laws_FnMerged.l0 k x3 x6 x7 x8 x9 x10 0)
def laws_FnMerged.l0 : Nat → List (S83) → List (S83) → List (S83) → List (S83) → List (S83) → List (S83) → Int → Option (Bool)
 | 0, _, _, _, _, _, _, _ => none
 | k + 1, x3, x6, x7, x8, x9, x10, x11 => if x11 < (x7.length : Int) then (if 0 ≤ x11 then (if x11 < (x8.length : Int) then (if (!(((rd_T83 x7 x11).f0) == ((rd_T83 x8 x11).f0)) || (!(((rd_T83 x7 x11).f1) == ((rd_T83 x8 x11).f1)))) = true then (some false) else (laws_FnMerged.l0 k x3 x6 x7 x8 x9 x10 (wrap64 (x11 + 1)))) else (none)) else (none)) else (laws_FnMerged.l1 k x3 x6 x7 x9 x10 0)
def laws_FnMerged.l1 : Nat → List (S83) → List (S83) → List (S83) → List (S83) → List (S83) → Int → Option (Bool)
 | 0, _, _, _, _, _, _ => none
 | k + 1, x3, x6, x7, x9, x10, x12 => if x12 < (x3.length : Int) then (if 0 ≤ x12 then (if x12 < (x10.length : Int) then (if (!(((rd_T83 x10 x12).f0) == ((rd_T83 x3 x12).f0)) || (!(((rd_T83 x10 x12).f1) == ((rd_T83 x3 x12).f1)))) = true then (some false) else (if x12 < (x9.length : Int) then (if ((rd_T83 x9 x12).f0) = (wrap64 (((rd_T83 x3 x12).f0) + 64)) then (laws_FnMerged.l1 k x3 x6 x7 x9 x10 (wrap64 (x12 + 1))) else (some false)) else (none))) else (none)) else (none)) else ((impl_DependsOk.f k x7).bind fun t380 => (if t380 = true then (if (x7.length : Int) ≥ (x3.length : Int) then (if (x7.length : Int) ≥ (x6.length : Int) then (some (decide ((x7.length : Int) ≤ (wrap64 ((x3.length : Int) + (x6.length : Int)))))) else (some false)) else (some false)) else (some false)))
end
def laws_FnMerged.f (k : Nat) (l0 : List Int) : Option (Bool) := (laws_big.f l0).bind fun t345 => (if t345 = true then (some true) else ((spec_DrawDepends.f k l0).bind fun t346 => ((spec_DrawTable.f k l0).bind fun bt349 => ((impl_DependsOf.f k bt349.1 bt349.2.1 bt349.2.2.1 bt349.2.2.2).bind fun t359 => ((impl_MergeDepends.f k t346 t359).bind fun t362 => ((impl_MergeDepends.f k t359 t346).bind fun t365 => ((impl_ShiftDepends.f k t346 64).bind fun t368 => ((impl_ShiftDepends.f k t368 (-64)).bind fun t371 => (if (t362.length : Int) = (t365.length : Int) then (if (t371.length : Int) = (t346.length : Int) then (laws_FnMerged.j0 k t346 t359 t362 t365 t368 t371 ((t368.length : Int) != (t346.length : Int))) else (laws_FnMerged.j0 k t346 t359 t362 t365 t368 t371 true)) else (laws_FnMerged.j0 k t346 t359 t362 t365 t368 t371 true))))))))))
theorem laws_FnMerged.mono_l : ∀ k, (∀ y0 y1 y2 y3 y4 y5 y6, LeO (laws_FnMerged.j0 k y0 y1 y2 y3 y4 y5 y6) (laws_FnMerged.j0 (k + 1) y0 y1 y2 y3 y4 y5 y6)) ∧ (∀ y0 y1 y2 y3 y4 y5 y6, LeO (laws_FnMerged.l0 k y0 y1 y2 y3 y4 y5 y6) (laws_FnMerged.l0 (k + 1) y0 y1 y2 y3 y4 y5 y6)) ∧ (∀ y0 y1 y2 y3 y4 y5, LeO (laws_FnMerged.l1 k y0 y1 y2 y3 y4 y5) (laws_FnMerged.l1 (k + 1) y0 y1 y2 y3 y4 y5))
 | 0 => ⟨fun _ _ _ _ _ _ _ r h => by simp [laws_FnMerged.j0] at h, fun _ _ _ _ _ _ _ r h => by simp [laws_FnMerged.l0] at h, fun _ _ _ _ _ _ r h => by simp [laws_FnMerged.l1] at h⟩
 | k + 1 => by
  obtain ⟨ih0, ih1, ih2⟩ := laws_FnMerged.mono_l k
  refine ⟨?_, ?_, ?_⟩
  ·intro y0 y1 y2 y3 y4 y5 y6
   unfold laws_FnMerged.j0
   repeat' first
   | (with_reducible exact ih0 _ _ _ _ _ _ _)
   | (with_reducible exact ih1 _ _ _ _ _ _ _)
   | (with_reducible exact ih2 _ _ _ _ _ _)
   | (with_reducible exact impl_DependsOf.mono _ _ _ _ _)
   | (with_reducible exact impl_DependsOk.mono _ _)
   | (with_reducible exact impl_MergeDepends.mono _ _ _)
   | (with_reducible exact impl_ShiftDepends.mono _ _ _)
   | (with_reducible exact spec_DrawDepends.mono _ _)
   | (with_reducible exact spec_DrawTable.mono _ _)
   | (with_reducible exact LeO.refl _)
   | (with_reducible exact LeO.none _)
   | (with_reducible refine LeO.ite ?_ ?_)
   | (with_reducible refine LeO.bind ?_ (fun _ => ?_))
   | exact ih0 _ _ _ _ _ _ _
   | exact ih1 _ _ _ _ _ _ _
   | exact ih2 _ _ _ _ _ _
   | exact impl_DependsOf.mono _ _ _ _ _
   | exact impl_DependsOk.mono _ _
   | exact impl_MergeDepends.mono _ _ _
   | exact impl_ShiftDepends.mono _ _ _
   | exact spec_DrawDepends.mono _ _
   | exact spec_DrawTable.mono _ _
   | exact LeO.none _
   | refine LeO.ite ?_ ?_
   | refine LeO.bind ?_ (fun _ => ?_)
  ·intro y0 y1 y2 y3 y4 y5 y6
   unfold laws_FnMerged.l0
   repeat' first
   | (with_reducible exact ih0 _ _ _ _ _ _ _)
   | (with_reducible exact ih1 _ _ _ _ _ _ _)
   | (with_reducible exact ih2 _ _ _ _ _ _)
   | (with_reducible exact impl_DependsOf.mono _ _ _ _ _)
   | (with_reducible exact impl_DependsOk.mono _ _)
   | (with_reducible exact impl_MergeDepends.mono _ _ _)
   | (with_reducible exact impl_ShiftDepends.mono _ _ _)
   | (with_reducible exact spec_DrawDepends.mono _ _)
   | (with_reducible exact spec_DrawTable.mono _ _)
   | (with_reducible exact LeO.refl _)
   | (with_reducible exact LeO.none _)
   | (with_reducible refine LeO.ite ?_ ?_)
   | (with_reducible refine LeO.bind ?_ (fun _ => ?_))
   | exact ih0 _ _ _ _ _ _ _
   | exact ih1 _ _ _ _ _ _ _
   | exact ih2 _ _ _ _ _ _
   | exact impl_DependsOf.mono _ _ _ _ _
   | exact impl_DependsOk.mono _ _
   | exact impl_MergeDepends.mono _ _ _
   | exact impl_ShiftDepends.mono _ _ _
   | exact spec_DrawDepends.mono _ _
   | exact spec_DrawTable.mono _ _
   | exact LeO.none _
   | refine LeO.ite ?_ ?_
   | refine LeO.bind ?_ (fun _ => ?_)
  ·intro y0 y1 y2 y3 y4 y5
   unfold laws_FnMerged.l1
   repeat' first
   | (with_reducible exact ih0 _ _ _ _ _ _ _)
   | (with_reducible exact ih1 _ _ _ _ _ _ _)
   | (with_reducible exact ih2 _ _ _ _ _ _)
   | (with_reducible exact impl_DependsOf.mono _ _ _ _ _)
   | (with_reducible exact impl_DependsOk.mono _ _)
   | (with_reducible exact impl_MergeDepends.mono _ _ _)
   | (with_reducible exact impl_ShiftDepends.mono _ _ _)
   | (with_reducible exact spec_DrawDepends.mono _ _)
   | (with_reducible exact spec_DrawTable.mono _ _)
   | (with_reducible exact LeO.refl _)
   | (with_reducible exact LeO.none _)
   | (with_reducible refine LeO.ite ?_ ?_)
   | (with_reducible refine LeO.bind ?_ (fun _ => ?_))
   | exact ih0 _ _ _ _ _ _ _
   | exact ih1 _ _ _ _ _ _ _
   | exact ih2 _ _ _ _ _ _
   | exact impl_DependsOf.mono _ _ _ _ _
   | exact impl_DependsOk.mono _ _
   | exact impl_MergeDepends.mono _ _ _
   | exact impl_ShiftDepends.mono _ _ _
   | exact spec_DrawDepends.mono _ _
   | exact spec_DrawTable.mono _ _
   | exact LeO.none _
   | refine LeO.ite ?_ ?_
   | refine LeO.bind ?_ (fun _ => ?_)
theorem laws_FnMerged.mono : ∀ a0 k, LeO (laws_FnMerged.f k a0) (laws_FnMerged.f (k + 1) a0) := by
 intro a0 k
 obtain ⟨ih0, ih1, ih2⟩ := laws_FnMerged.mono_l k
 unfold laws_FnMerged.f
 repeat' first
   | (with_reducible exact ih0 _ _ _ _ _ _ _)
   | (with_reducible exact ih1 _ _ _ _ _ _ _)
   | (with_reducible exact ih2 _ _ _ _ _ _)
   | (with_reducible exact impl_DependsOf.mono _ _ _ _ _)
   | (with_reducible exact impl_DependsOk.mono _ _)
   | (with_reducible exact impl_MergeDepends.mono _ _ _)
   | (with_reducible exact impl_ShiftDepends.mono _ _ _)
   | (with_reducible exact spec_DrawDepends.mono _ _)
   | (with_reducible exact spec_DrawTable.mono _ _)
   | (with_reducible exact LeO.refl _)
   | (with_reducible exact LeO.none _)
   | (with_reducible refine LeO.ite ?_ ?_)
   | (with_reducible refine LeO.bind ?_ (fun _ => ?_))
   | exact ih0 _ _ _ _ _ _ _
   | exact ih1 _ _ _ _ _ _ _
   | exact ih2 _ _ _ _ _ _
   | exact impl_DependsOf.mono _ _ _ _ _
   | exact impl_DependsOk.mono _ _
   | exact impl_MergeDepends.mono _ _ _
   | exact impl_ShiftDepends.mono _ _ _
   | exact spec_DrawDepends.mono _ _
   | exact spec_DrawTable.mono _ _
   | exact LeO.none _
   | refine LeO.ite ?_ ?_
   | refine LeO.bind ?_ (fun _ => ?_)
set_option maxHeartbeats 8000000 in
set_option maxRecDepth 100000 in
theorem laws_FnMerged.calls (k : Nat) (A0 : Option Addr) (c0 : Nat) (l0 : List Int) (r : Bool) (w : World) (hr0 : Kd.C (Kd.int .u8) w A0 l0.length l0) (hc0 : l0.length ≤ c0) (hrt0 : r = true) (h : laws_FnMerged.f k l0 = some r) :
  Calls Try.prog 14 #[.slice A0 l0.length c0] w fun e w' => e = .returned (.bool r) ∧ Below w.heap.size w w' := by
 have hu34 := Try.underlying34
 have hu36 := Try.underlying36
 have hu83 := Try.underlying83
 have HRT := qab.mk hrt0
 clear hrt0
 have HR0 := qab.mk hr0
 have HC0 := qab.mk hc0
 clear hr0 hc0
 have HB := qab.mk (Below.refl w.heap.size w)
 have H : ((laws_big.f l0).bind fun t345 => (if t345 = true then (some true) else ((spec_DrawDepends.f k l0).bind fun t346 => ((spec_DrawTable.f k l0).bind fun bt349 => ((impl_DependsOf.f k bt349.1 bt349.2.1 bt349.2.2.1 bt349.2.2.2).bind fun t359 => ((impl_MergeDepends.f k t346 t359).bind fun t362 => ((impl_MergeDepends.f k t359 t346).bind fun t365 => ((impl_ShiftDepends.f k t346 64).bind fun t368 => ((impl_ShiftDepends.f k t368 (-64)).bind fun t371 => (if (t362.length : Int) = (t365.length : Int) then (if (t371.length : Int) = (t346.length : Int) then (laws_FnMerged.j0 k t346 t359 t362 t365 t368 t371 ((t368.length : Int) != (t346.length : Int))) else (laws_FnMerged.j0 k t346 t359 t362 t365 t368 t371 true)) else (laws_FnMerged.j0 k t346 t359 t362 t365 t368 t371 true))))))))))) = some r := h
 clear h
 replace H := Option.bind_eq_some_iff.mp H
 obtain ⟨t345, A20, H⟩ := H
 try dsimp only at H
 have A2 := qab.mk A20
 clear A20
 by_cases c3 : t345 = true
 ·subst c3
  have H1 := H
  rw [if_pos rfl] at H1
  clear H
  have H := H1
  clear H1
  obtain rfl := Option.some.inj H
  go_enter Try.func14, Try.ntmps14
  go_wp2_with (first | (go_at_call 40; (with_reducible refine (laws_big.calls _ _ l0 true _ ?side1 ?side2 A2.out).mono ?_); (case side1 => repeat (first | exact HR0.out | (with_reducible first | refine Kd.qaz ?_ _ | refine Kd.qay ?_ _ | refine Kd.qbd ?_))); (case side2 => exact HC0.out); rintro e w' ⟨rfl, ⟨nd, rfl⟩⟩; (try first | exact ⟨rfl, _, World.drewN_drewN _ _ _⟩ | exact ⟨rfl, _, Eq.trans (World.drewN_drewN _ _ _) (congrArg (World.drewN _) (Nat.add_assoc _ _ _))⟩)))
  repeat (go_quiet (first | (go_at_call 40; (with_reducible refine (laws_big.calls _ _ l0 true _ ?side1 ?side2 A2.out).mono ?_); (case side1 => repeat (first | exact HR0.out | (with_reducible first | refine Kd.qaz ?_ _ | refine Kd.qay ?_ _ | refine Kd.qbd ?_))); (case side2 => exact HC0.out); rintro e w' ⟨rfl, ⟨nd, rfl⟩⟩; (try first | exact ⟨rfl, _, World.drewN_drewN _ _ _⟩ | exact ⟨rfl, _, Eq.trans (World.drewN_drewN _ _ _) (congrArg (World.drewN _) (Nat.add_assoc _ _ _))⟩))); try go_wp2_with (first | (go_at_call 40; (with_reducible refine (laws_big.calls _ _ l0 true _ ?side1 ?side2 A2.out).mono ?_); (case side1 => repeat (first | exact HR0.out | (with_reducible first | refine Kd.qaz ?_ _ | refine Kd.qay ?_ _ | refine Kd.qbd ?_))); (case side2 => exact HC0.out); rintro e w' ⟨rfl, ⟨nd, rfl⟩⟩; (try first | exact ⟨rfl, _, World.drewN_drewN _ _ _⟩ | exact ⟨rfl, _, Eq.trans (World.drewN_drewN _ _ _) (congrArg (World.drewN _) (Nat.add_assoc _ _ _))⟩))))
  go_ret
  exact ⟨by first | rfl | (simp [errW_none, errW_some] <;> rfl) | (simp [*, errW_none, errW_some] <;> rfl), by repeat (first | (with_reducible first | exact HB.out | apply qad | apply qaa | apply qac) | exact HB.out)⟩
 ·replace c3 := Bool.eq_false_iff.mpr c3
  subst c3
  have H1 := H
  rw [if_neg (show ¬ (false = true) by decide)] at H1
  clear H
  have H := H1
  clear H1
  replace H := Option.bind_eq_some_iff.mp H
  obtain ⟨t346, A40, H⟩ := H
  try dsimp only at H
  have A4 := qab.mk A40
  clear A40
  replace H := Option.bind_eq_some_iff.mp H
  obtain ⟨⟨t349, t350, t351, t354⟩, A50, H⟩ := H
  try dsimp only at H
  have A5 := qab.mk A50
  clear A50
  replace H := Option.bind_eq_some_iff.mp H
  obtain ⟨t359, A60, H⟩ := H
  try dsimp only at H
  have A6 := qab.mk A60
  clear A60
  replace H := Option.bind_eq_some_iff.mp H
  obtain ⟨t362, A70, H⟩ := H
  try dsimp only at H
  have A7 := qab.mk A70
  clear A70
  replace H := Option.bind_eq_some_iff.mp H
  obtain ⟨t365, A80, H⟩ := H
  try dsimp only at H
  have A8 := qab.mk A80
  clear A80
  replace H := Option.bind_eq_some_iff.mp H
  obtain ⟨t368, A90, H⟩ := H
  try dsimp only at H
  have A9 := qab.mk A90
  clear A90
  replace H := Option.bind_eq_some_iff.mp H
  obtain ⟨t371, A100, H⟩ := H
  try dsimp only at H
  have A10 := qab.mk A100
  clear A100
  have HC11 := qab.mk H
  clear H
  go_enter Try.func14, Try.ntmps14
  go_upto_region 10 with (first | (go_at_call 40; (with_reducible refine (laws_big.calls _ _ l0 false _ ?side1 ?side2 A2.out).mono ?_); (case side1 => repeat (first | exact HR0.out | (with_reducible first | refine Kd.qaz ?_ _ | refine Kd.qay ?_ _ | refine Kd.qbd ?_))); (case side2 => exact HC0.out); rintro e w' ⟨rfl, ⟨nd, rfl⟩⟩; (try first | exact ⟨rfl, _, World.drewN_drewN _ _ _⟩ | exact ⟨rfl, _, Eq.trans (World.drewN_drewN _ _ _) (congrArg (World.drewN _) (Nat.add_assoc _ _ _))⟩)) | (go_at_call 69; (with_reducible refine (spec_DrawDepends.calls k _ _ l0 t346 _ ?side1 ?side2 A4.out).mono ?_); (case side1 => repeat (first | exact HR0.out | (with_reducible first | refine Kd.qaz ?_ _ | refine Kd.qay ?_ _ | refine Kd.qbd ?_))); (case side2 => exact HC0.out); rintro e w12 ⟨v347, rfl, ho0, hb⟩; have n0_ := qab.mk (Kd.qbm ho0 (qal (by repeat (first | (with_reducible first | exact HB.out | apply qad | apply qaa | apply qac) | exact HB.out)))); have n1_ := qab.mk (qak (by repeat (first | (with_reducible first | exact HB.out | apply qad | apply qaa | apply qac) | exact HB.out)) hb); clear HB; have HO348 := n0_; have HB := n1_; clear n0_ n1_; (try clear hb); (try clear hb2); (try clear hk); (try clear hi); (try clear ho0)) | (go_at_call 50; (with_reducible refine (spec_DrawTable.calls k _ _ l0 t349 t350 t351 t354 _ ?side1 ?side2 A5.out).mono ?_); (case side1 => repeat (first | exact (Kd.qbf HR0.out HB.out) | (with_reducible first | refine Kd.qaz ?_ _ | refine Kd.qay ?_ _ | refine Kd.qbd ?_))); (case side2 => exact HC0.out); rintro e w13 ⟨v352, v355, rfl, ho0, ho1, hb⟩; have n0_ := qab.mk (Kd.qav (by (with_reducible repeat (first | apply Kd.qao | apply Kd.qan | apply Kd.qap)); exact HO348.out) hb); have n1_ := qab.mk (Kd.qbm ho0 (qal (by repeat (first | (with_reducible first | exact HB.out | apply qad | apply qaa | apply qac) | exact HB.out)))); have n2_ := qab.mk (Kd.qbm ho1 (qal (by repeat (first | (with_reducible first | exact HB.out | apply qad | apply qaa | apply qac) | exact HB.out)))); have n3_ := qab.mk (qak (by repeat (first | (with_reducible first | exact HB.out | apply qad | apply qaa | apply qac) | exact HB.out)) hb); clear HO348; clear HB; have HO348 := n0_; have HO353 := n1_; have HO356 := n2_; have HB := n3_; clear n0_ n1_ n2_ n3_; (try clear hb); (try clear hb2); (try clear hk); (try clear hi); (try clear ho0); (try clear ho1)) | ((with_reducible refine qas (N := 4) rfl ?_); (try (refine qbh (by rfl) ?_; dsimp only)); refine qar ?hg (N := 4) ?hd (cs := #[.int .i64 0, .int .i64 0, .slice none 0 0]) (t := 34) ?hr ?_; (case hd => rfl); (case hg => rfl); (case hr => first | (go_simp; done) | (go_simp; rfl)); intro gb357 hg w14 hbox hb; have n0_ := qab.mk (Kd.qav (by (with_reducible repeat (first | apply Kd.qao | apply Kd.qan | apply Kd.qap)); exact HO348.out) hb); have n1_ := qab.mk (Kd.qav (by (with_reducible repeat (first | apply Kd.qao | apply Kd.qan | apply Kd.qap)); exact HO353.out) hb); have n2_ := qab.mk (Kd.qav (by (with_reducible repeat (first | apply Kd.qao | apply Kd.qan | apply Kd.qap)); exact HO356.out) hb); have n3_ := qab.mk (qak (by repeat (first | (with_reducible first | exact HB.out | apply qad | apply qaa | apply qac) | exact HB.out)) hb); have n4_ := qab.mk (hbox); have n5_ := qab.mk ((by rw [hg]; exact (qal (by repeat (first | (with_reducible first | exact HB.out | apply qad | apply qaa | apply qac) | exact HB.out))) : w.heap.size ≤ gb357)); have n6_ := qab.mk ((by rw [hg]; exact (qal (by repeat (first | (with_reducible first | exact HB.out | apply qad | apply qaa | apply qac) | exact HB.out))) : w.heap.size ≤ gb357)); clear HO348; clear HO353; clear HO356; clear HB; have HO348 := n0_; have HO353 := n1_; have HO356 := n2_; have HB := n3_; have BK357 := n4_; have GW357 := n5_; have GE357 := n6_; clear n0_ n1_ n2_ n3_ n4_ n5_ n6_; clear hb hbox hg) | ((with_reducible refine qas (N := 5) rfl ?_); (try (refine qbh (by rfl) ?_; dsimp only)); refine qar ?hg (N := 5) ?hd (cs := #[.slice none 0 0]) (t := 36) ?hr ?_; (case hd => rfl); (case hg => rfl); (case hr => first | (go_simp; done) | (go_simp; rfl)); intro gb358 hg w15 hbox hb; have n0_ := qab.mk (Kd.qav (by (with_reducible repeat (first | apply Kd.qao | apply Kd.qan | apply Kd.qap)); exact HO348.out) hb); have n1_ := qab.mk (Kd.qav (by (with_reducible repeat (first | apply Kd.qao | apply Kd.qan | apply Kd.qap)); exact HO353.out) hb); have n2_ := qab.mk (Kd.qav (by (with_reducible repeat (first | apply Kd.qao | apply Kd.qan | apply Kd.qap)); exact HO356.out) hb); have n3_ := qab.mk (qam (g := gb357) (o := .cells #[.int .i64 0, .int .i64 0, .slice none 0 0] 34 (0, 0)) (by (with_reducible repeat (first | refine qag ?_ _ | refine qaj ?_ | refine qaf ?_ _)); exact BK357.out) hb); have n4_ := qab.mk (qak (by repeat (first | (with_reducible first | exact HB.out | apply qad | apply qaa | apply qac | refine qae ?_ GE357.out) | exact HB.out)) hb); have n5_ := qab.mk (hbox); have n6_ := qab.mk ((by rw [hg]; exact (qal (by repeat (first | (with_reducible first | exact HB.out | apply qad | apply qaa | apply qac | refine qae ?_ GE357.out) | exact HB.out))) : w.heap.size ≤ gb358)); have n7_ := qab.mk ((by rw [hg]; exact (qal (by repeat (first | (with_reducible first | exact HB.out | apply qad | apply qaa | apply qac | refine qae ?_ GE357.out) | exact HB.out))) : w.heap.size ≤ gb358)); have n8_ := qab.mk ((by rw [hg]; exact Nat.ne_of_lt (qbo (g := gb357) (o := .cells #[.int .i64 0, .int .i64 0, .slice none 0 0] 34 (0, 0)) (by (with_reducible repeat (first | refine qag ?_ _ | refine qaj ?_ | refine qaf ?_ _)); exact BK357.out)) : gb357 ≠ gb358)); have n9_ := qab.mk ((by rw [hg]; exact Nat.ne_of_gt (qbo (g := gb357) (o := .cells #[.int .i64 0, .int .i64 0, .slice none 0 0] 34 (0, 0)) (by (with_reducible repeat (first | refine qag ?_ _ | refine qaj ?_ | refine qaf ?_ _)); exact BK357.out)) : gb358 ≠ gb357)); clear HO348; clear HO353; clear HO356; clear BK357; clear HB; have HO348 := n0_; have HO353 := n1_; have HO356 := n2_; have BK357 := n3_; have HB := n4_; have BK358 := n5_; have GW358 := n6_; have GE358 := n7_; have NB357_358 := n8_; have NB358_357 := n9_; clear n0_ n1_ n2_ n3_ n4_ n5_ n6_ n7_ n8_ n9_; clear hb hbox hg; have hnb16 := NB357_358.out; have hnc16 := NB358_357.out; have hcz17_0 : w15.cell? ⟨gb357, 0, none⟩ = some (.int .i64 0) := (qai BK357.out 0).trans rfl; have hcz17_1 : w15.cell? ⟨gb357, 1, none⟩ = some (.int .i64 0) := (qai BK357.out 1).trans rfl; have hcz17_2 : w15.cell? ⟨gb357, 2, none⟩ = some (.slice none 0 0) := (qai BK357.out 2).trans rfl; have hfz17_0 := qah BK357.out 0; have hfz17_1 := qah BK357.out 1; have hfz17_2 := qah BK357.out 2; obtain ⟨Ao18, co18, eo18⟩ := Kd.qbj HO353.out; subst eo18; obtain ⟨Ao19, co19, eo19⟩ := Kd.qbj HO356.out; subst eo19; have hcz20_0 : w15.cell? ⟨gb358, 0, none⟩ = some (.slice none 0 0) := (qai BK358.out 0).trans rfl; have hfz20_0 := qah BK358.out 0) | (go_at_call 32; (with_reducible refine (impl_DependsOf.calls k t349 t350 _ _ t351 _ _ t354 t359 _ ?side1 ?side2 ?side3 ?side4 A6.out).mono ?_); (case side1 => refine (Kd.qau (e := 3) (base := w.heap.size) (ok := fun k_ => some k_ ≠ (.slice Ao19 t354.length co19 : Value).ownBlock) (n := t351.length) (c := co18) ?_).2.2; exact (by (with_reducible repeat (first | apply Kd.qao | apply Kd.qan | apply Kd.qap)); exact (Kd.qbb (Kd.qbb (Kd.R_far (p := ⟨gb358, 0, none⟩) (Kd.R_far (p := ⟨gb357, 2, none⟩) (Kd.R_far (p := ⟨gb357, 1, none⟩) (Kd.R_far (p := ⟨gb357, 0, none⟩) (Kd.qbg (Kd.qbg HO353.out BK357.out (by decide)) BK358.out (by decide)) (fun _ hk => by first | exact hk.1.2 | (simp_all; done) | grind) (.int .i64 t349)) (fun _ hk => by first | exact hk.1.2 | (simp_all; done) | grind) (.int .i64 t350)) (fun _ hk => by first | exact hk.1.2 | (simp_all; done) | grind) (.slice Ao18 t351.length co18)) (fun _ hk => by first | exact hk.2 | (simp_all; done) | grind) (.slice Ao19 t354.length co19)) (fun _ h_ => h_.1)) (fun _ h_ => h_.1)))); (case side2 => exact (Kd.qau HO353.out).2.1); (case side3 => refine (Kd.qau (e := 3) (base := w.heap.size) (ok := fun k_ => some k_ ≠ (.slice Ao18 t351.length co18 : Value).ownBlock) (n := t354.length) (c := co19) ?_).2.2; exact (by (with_reducible repeat (first | apply Kd.qao | apply Kd.qan | apply Kd.qap)); exact (Kd.qbb (Kd.qbb (Kd.R_far (p := ⟨gb358, 0, none⟩) (Kd.R_far (p := ⟨gb357, 2, none⟩) (Kd.R_far (p := ⟨gb357, 1, none⟩) (Kd.R_far (p := ⟨gb357, 0, none⟩) (Kd.qbg (Kd.qbg HO356.out BK357.out (by decide)) BK358.out (by decide)) (fun _ hk => by first | exact hk.1.2 | (simp_all; done) | grind) (.int .i64 t349)) (fun _ hk => by first | exact hk.1.2 | (simp_all; done) | grind) (.int .i64 t350)) (fun _ hk => by first | exact hk.1.2 | (simp_all; done) | grind) (.slice Ao18 t351.length co18)) (fun _ hk => by first | exact hk.2 | (simp_all; done) | grind) (.slice Ao19 t354.length co19)) (fun _ h_ => h_.1)) (fun _ h_ => h_.1)))); (case side4 => exact (Kd.qau HO356.out).2.1); rintro e w21 ⟨v360, rfl, ho0, hb⟩; have n0_ := qab.mk (Kd.qbc (by (with_reducible repeat (first | apply Kd.qao | apply Kd.qan | apply Kd.qap)); exact (Kd.qbb (Kd.qbb (Kd.R_far (p := ⟨gb358, 0, none⟩) (Kd.R_far (p := ⟨gb357, 2, none⟩) (Kd.R_far (p := ⟨gb357, 1, none⟩) (Kd.R_far (p := ⟨gb357, 0, none⟩) (Kd.qbg (Kd.qbg HO348.out BK357.out (by decide)) BK358.out (by decide)) (fun _ hk => by first | exact hk.1.2 | (simp_all; done) | grind) (.int .i64 t349)) (fun _ hk => by first | exact hk.1.2 | (simp_all; done) | grind) (.int .i64 t350)) (fun _ hk => by first | exact hk.1.2 | (simp_all; done) | grind) (.slice Ao18 t351.length co18)) (fun _ hk => by first | exact hk.2 | (simp_all; done) | grind) (.slice Ao19 t354.length co19)) (fun _ h_ => h_.1)) (fun _ h_ => h_.1))) (Kd.qbl ho0) hb); have n1_ := qab.mk (Kd.qav (by (with_reducible repeat (first | apply Kd.qao | apply Kd.qan | apply Kd.qap)); exact (Kd.qbb (Kd.qbb (Kd.R_far (p := ⟨gb358, 0, none⟩) (Kd.R_far (p := ⟨gb357, 2, none⟩) (Kd.R_far (p := ⟨gb357, 1, none⟩) (Kd.R_far (p := ⟨gb357, 0, none⟩) (Kd.qbg (Kd.qbg HO353.out BK357.out (by decide)) BK358.out (by decide)) (fun _ hk => by first | exact hk.1.2 | (simp_all; done) | grind) (.int .i64 t349)) (fun _ hk => by first | exact hk.1.2 | (simp_all; done) | grind) (.int .i64 t350)) (fun _ hk => by first | exact hk.1.2 | (simp_all; done) | grind) (.slice Ao18 t351.length co18)) (fun _ hk => by first | exact hk.2 | (simp_all; done) | grind) (.slice Ao19 t354.length co19)) (fun _ h_ => h_.1)) (fun _ h_ => h_.1))) hb); have n2_ := qab.mk (Kd.qav (by (with_reducible repeat (first | apply Kd.qao | apply Kd.qan | apply Kd.qap)); exact (Kd.qbb (Kd.qbb (Kd.R_far (p := ⟨gb358, 0, none⟩) (Kd.R_far (p := ⟨gb357, 2, none⟩) (Kd.R_far (p := ⟨gb357, 1, none⟩) (Kd.R_far (p := ⟨gb357, 0, none⟩) (Kd.qbg (Kd.qbg HO356.out BK357.out (by decide)) BK358.out (by decide)) (fun _ hk => by first | exact hk.1.2 | (simp_all; done) | grind) (.int .i64 t349)) (fun _ hk => by first | exact hk.1.2 | (simp_all; done) | grind) (.int .i64 t350)) (fun _ hk => by first | exact hk.1.2 | (simp_all; done) | grind) (.slice Ao18 t351.length co18)) (fun _ hk => by first | exact hk.2 | (simp_all; done) | grind) (.slice Ao19 t354.length co19)) (fun _ h_ => h_.1)) (fun _ h_ => h_.1))) hb); have n3_ := qab.mk (Kd.qbm (Kd.qbn ho0 (Kd.R_lt (by (with_reducible repeat (first | apply Kd.qao | apply Kd.qan | apply Kd.qap)); exact (Kd.qbb (Kd.qbb (Kd.R_far (p := ⟨gb358, 0, none⟩) (Kd.R_far (p := ⟨gb357, 2, none⟩) (Kd.R_far (p := ⟨gb357, 1, none⟩) (Kd.R_far (p := ⟨gb357, 0, none⟩) (Kd.qbg (Kd.qbg HO348.out BK357.out (by decide)) BK358.out (by decide)) (fun _ hk => by first | exact hk.1.2 | (simp_all; done) | grind) (.int .i64 t349)) (fun _ hk => by first | exact hk.1.2 | (simp_all; done) | grind) (.int .i64 t350)) (fun _ hk => by first | exact hk.1.2 | (simp_all; done) | grind) (.slice Ao18 t351.length co18)) (fun _ hk => by first | exact hk.2 | (simp_all; done) | grind) (.slice Ao19 t354.length co19)) (fun _ h_ => h_.1)) (fun _ h_ => h_.1))))) (qal (by repeat (first | (with_reducible first | exact HB.out | apply qad | apply qaa | apply qac | refine qae ?_ GE357.out | refine qae ?_ GE358.out) | exact HB.out)))); have n4_ := qab.mk (qam (g := gb357) (o := .cells #[.int .i64 t349, .int .i64 t350, .slice Ao18 t351.length co18] 34 (0, 0)) (by (with_reducible repeat (first | refine qag ?_ _ | refine qaj ?_ | refine qaf ?_ _)); refine qbq ?_ NB357_358.out _; (with_reducible repeat (first | refine qag ?_ _ | refine qaj ?_ | refine qaf ?_ _)); refine qbi (cs := #[.int .i64 t349, .int .i64 t350, .slice none 0 0]) ?_ 2 _ rfl; (with_reducible repeat (first | refine qag ?_ _ | refine qaj ?_ | refine qaf ?_ _)); refine qbi (cs := #[.int .i64 t349, .int .i64 0, .slice none 0 0]) ?_ 1 _ rfl; (with_reducible repeat (first | refine qag ?_ _ | refine qaj ?_ | refine qaf ?_ _)); refine qbi (cs := #[.int .i64 0, .int .i64 0, .slice none 0 0]) ?_ 0 _ rfl; (with_reducible repeat (first | refine qag ?_ _ | refine qaj ?_ | refine qaf ?_ _)); exact BK357.out) hb); have n5_ := qab.mk (qam (g := gb358) (o := .cells #[.slice Ao19 t354.length co19] 36 (0, 0)) (by (with_reducible repeat (first | refine qag ?_ _ | refine qaj ?_ | refine qaf ?_ _)); refine qbi (cs := #[.slice none 0 0]) ?_ 0 _ rfl; (with_reducible repeat (first | refine qag ?_ _ | refine qaj ?_ | refine qaf ?_ _)); refine qbq ?_ NB358_357.out _; (with_reducible repeat (first | refine qag ?_ _ | refine qaj ?_ | refine qaf ?_ _)); refine qbq ?_ NB358_357.out _; (with_reducible repeat (first | refine qag ?_ _ | refine qaj ?_ | refine qaf ?_ _)); refine qbq ?_ NB358_357.out _; (with_reducible repeat (first | refine qag ?_ _ | refine qaj ?_ | refine qaf ?_ _)); exact BK358.out) hb); have n6_ := qab.mk (qak (by repeat (first | (with_reducible first | exact HB.out | apply qad | apply qaa | apply qac | refine qae ?_ GE357.out | refine qae ?_ GE358.out) | exact HB.out)) hb); clear HO348; clear HO353; clear HO356; clear BK357; clear BK358; clear HB; have HO348 := n0_; have HO353 := n1_; have HO356 := n2_; have HO361 := n3_; have BK357 := n4_; have BK358 := n5_; have HB := n6_; clear n0_ n1_ n2_ n3_ n4_ n5_ n6_; (try clear hb); (try clear hb2); (try clear hk); (try clear hi); (try clear ho0); obtain ⟨Ao22, co22, eo22⟩ := Kd.qbj HO348.out; subst eo22; obtain ⟨Ao23, co23, eo23⟩ := Kd.qbj HO361.out; subst eo23) | (go_at_call 61; (with_reducible refine (impl_MergeDepends.calls k _ _ t346 _ _ t359 t362 _ ?side1 ?side2 ?side3 ?side4 A7.out).mono ?_); (case side1 => repeat (first | exact (Kd.qau HO348.out).2.2 | (with_reducible first | refine Kd.qaz ?_ _ | refine Kd.qay ?_ _ | refine Kd.qbd ?_))); (case side2 => exact (Kd.qau HO348.out).2.1); (case side3 => repeat (first | exact (Kd.qau HO361.out).2.2 | (with_reducible first | refine Kd.qaz ?_ _ | refine Kd.qay ?_ _ | refine Kd.qbd ?_))); (case side4 => exact (Kd.qau HO361.out).2.1); rintro e w24 ⟨v363, rfl, ho0, hb⟩; have n0_ := qab.mk (Kd.qbc (by (with_reducible repeat (first | apply Kd.qao | apply Kd.qan | apply Kd.qap)); exact HO348.out) (Kd.qbl ho0) hb); have n1_ := qab.mk (Kd.qav (by (with_reducible repeat (first | apply Kd.qao | apply Kd.qan | apply Kd.qap)); exact HO353.out) hb); have n2_ := qab.mk (Kd.qav (by (with_reducible repeat (first | apply Kd.qao | apply Kd.qan | apply Kd.qap)); exact HO356.out) hb); have n3_ := qab.mk (Kd.qbc (by (with_reducible repeat (first | apply Kd.qao | apply Kd.qan | apply Kd.qap)); exact HO361.out) (Kd.qbl ho0) hb); have n4_ := qab.mk (Kd.qbm (Kd.qbn (Kd.qbn ho0 (Kd.R_lt (by (with_reducible repeat (first | apply Kd.qao | apply Kd.qan | apply Kd.qap)); exact HO348.out))) (Kd.R_lt (by (with_reducible repeat (first | apply Kd.qao | apply Kd.qan | apply Kd.qap)); exact HO361.out))) (qal (by repeat (first | (with_reducible first | exact HB.out | apply qad | apply qaa | apply qac | refine qae ?_ GE357.out | refine qae ?_ GE358.out) | exact HB.out)))); have n5_ := qab.mk (qam (g := gb357) (o := .cells #[.int .i64 t349, .int .i64 t350, .slice Ao18 t351.length co18] 34 (0, 0)) (by (with_reducible repeat (first | refine qag ?_ _ | refine qaj ?_ | refine qaf ?_ _)); exact BK357.out) hb); have n6_ := qab.mk (qam (g := gb358) (o := .cells #[.slice Ao19 t354.length co19] 36 (0, 0)) (by (with_reducible repeat (first | refine qag ?_ _ | refine qaj ?_ | refine qaf ?_ _)); exact BK358.out) hb); have n7_ := qab.mk (qak (by repeat (first | (with_reducible first | exact HB.out | apply qad | apply qaa | apply qac | refine qae ?_ GE357.out | refine qae ?_ GE358.out) | exact HB.out)) hb); clear HO348; clear HO353; clear HO356; clear HO361; clear BK357; clear BK358; clear HB; have HO348 := n0_; have HO353 := n1_; have HO356 := n2_; have HO361 := n3_; have HO364 := n4_; have BK357 := n5_; have BK358 := n6_; have HB := n7_; clear n0_ n1_ n2_ n3_ n4_ n5_ n6_ n7_; (try clear hb); (try clear hb2); (try clear hk); (try clear hi); (try clear ho0)) | (go_at_call 61; (with_reducible refine (impl_MergeDepends.calls k _ _ t359 _ _ t346 t365 _ ?side1 ?side2 ?side3 ?side4 A8.out).mono ?_); (case side1 => repeat (first | exact (Kd.qau HO361.out).2.2 | (with_reducible first | refine Kd.qaz ?_ _ | refine Kd.qay ?_ _ | refine Kd.qbd ?_))); (case side2 => exact (Kd.qau HO361.out).2.1); (case side3 => repeat (first | exact (Kd.qau HO348.out).2.2 | (with_reducible first | refine Kd.qaz ?_ _ | refine Kd.qay ?_ _ | refine Kd.qbd ?_))); (case side4 => exact (Kd.qau HO348.out).2.1); rintro e w25 ⟨v366, rfl, ho0, hb⟩; have n0_ := qab.mk (Kd.qbc (by (with_reducible repeat (first | apply Kd.qao | apply Kd.qan | apply Kd.qap)); exact HO348.out) (Kd.qbl ho0) hb); have n1_ := qab.mk (Kd.qav (by (with_reducible repeat (first | apply Kd.qao | apply Kd.qan | apply Kd.qap)); exact HO353.out) hb); have n2_ := qab.mk (Kd.qav (by (with_reducible repeat (first | apply Kd.qao | apply Kd.qan | apply Kd.qap)); exact HO356.out) hb); have n3_ := qab.mk (Kd.qbc (by (with_reducible repeat (first | apply Kd.qao | apply Kd.qan | apply Kd.qap)); exact HO361.out) (Kd.qbl ho0) hb); have n4_ := qab.mk (Kd.qbc (by (with_reducible repeat (first | apply Kd.qao | apply Kd.qan | apply Kd.qap)); exact HO364.out) (Kd.qbl ho0) hb); have n5_ := qab.mk (Kd.qbm (Kd.qbn (Kd.qbn (Kd.qbn ho0 (Kd.R_lt (by (with_reducible repeat (first | apply Kd.qao | apply Kd.qan | apply Kd.qap)); exact HO348.out))) (Kd.R_lt (by (with_reducible repeat (first | apply Kd.qao | apply Kd.qan | apply Kd.qap)); exact HO361.out))) (Kd.R_lt (by (with_reducible repeat (first | apply Kd.qao | apply Kd.qan | apply Kd.qap)); exact HO364.out))) (qal (by repeat (first | (with_reducible first | exact HB.out | apply qad | apply qaa | apply qac | refine qae ?_ GE357.out | refine qae ?_ GE358.out) | exact HB.out)))); have n6_ := qab.mk (qam (g := gb357) (o := .cells #[.int .i64 t349, .int .i64 t350, .slice Ao18 t351.length co18] 34 (0, 0)) (by (with_reducible repeat (first | refine qag ?_ _ | refine qaj ?_ | refine qaf ?_ _)); exact BK357.out) hb); have n7_ := qab.mk (qam (g := gb358) (o := .cells #[.slice Ao19 t354.length co19] 36 (0, 0)) (by (with_reducible repeat (first | refine qag ?_ _ | refine qaj ?_ | refine qaf ?_ _)); exact BK358.out) hb); have n8_ := qab.mk (qak (by repeat (first | (with_reducible first | exact HB.out | apply qad | apply qaa | apply qac | refine qae ?_ GE357.out | refine qae ?_ GE358.out) | exact HB.out)) hb); clear HO348; clear HO353; clear HO356; clear HO361; clear HO364; clear BK357; clear BK358; clear HB; have HO348 := n0_; have HO353 := n1_; have HO356 := n2_; have HO361 := n3_; have HO364 := n4_; have HO367 := n5_; have BK357 := n6_; have BK358 := n7_; have HB := n8_; clear n0_ n1_ n2_ n3_ n4_ n5_ n6_ n7_ n8_; (try clear hb); (try clear hb2); (try clear hk); (try clear hi); (try clear ho0)) | (go_at_call 70; (with_reducible refine (impl_ShiftDepends.calls k _ _ t346 64 t368 _ ?side1 ?side2 A9.out).mono ?_); (case side1 => repeat (first | exact (Kd.qau HO348.out).2.2 | (with_reducible first | refine Kd.qaz ?_ _ | refine Kd.qay ?_ _ | refine Kd.qbd ?_))); (case side2 => exact (Kd.qau HO348.out).2.1); rintro e w26 ⟨v369, rfl, ho0, hb⟩; have n0_ := qab.mk (Kd.qbc (by (with_reducible repeat (first | apply Kd.qao | apply Kd.qan | apply Kd.qap)); exact HO348.out) (Kd.qbl ho0) hb); have n1_ := qab.mk (Kd.qav (by (with_reducible repeat (first | apply Kd.qao | apply Kd.qan | apply Kd.qap)); exact HO353.out) hb); have n2_ := qab.mk (Kd.qav (by (with_reducible repeat (first | apply Kd.qao | apply Kd.qan | apply Kd.qap)); exact HO356.out) hb); have n3_ := qab.mk (Kd.qbc (by (with_reducible repeat (first | apply Kd.qao | apply Kd.qan | apply Kd.qap)); exact HO361.out) (Kd.qbl ho0) hb); have n4_ := qab.mk (Kd.qbc (by (with_reducible repeat (first | apply Kd.qao | apply Kd.qan | apply Kd.qap)); exact HO364.out) (Kd.qbl ho0) hb); have n5_ := qab.mk (Kd.qbc (by (with_reducible repeat (first | apply Kd.qao | apply Kd.qan | apply Kd.qap)); exact HO367.out) (Kd.qbl ho0) hb); have n6_ := qab.mk (Kd.qbm (Kd.qbn (Kd.qbn (Kd.qbn (Kd.qbn ho0 (Kd.R_lt (by (with_reducible repeat (first | apply Kd.qao | apply Kd.qan | apply Kd.qap)); exact HO348.out))) (Kd.R_lt (by (with_reducible repeat (first | apply Kd.qao | apply Kd.qan | apply Kd.qap)); exact HO361.out))) (Kd.R_lt (by (with_reducible repeat (first | apply Kd.qao | apply Kd.qan | apply Kd.qap)); exact HO364.out))) (Kd.R_lt (by (with_reducible repeat (first | apply Kd.qao | apply Kd.qan | apply Kd.qap)); exact HO367.out))) (qal (by repeat (first | (with_reducible first | exact HB.out | apply qad | apply qaa | apply qac | refine qae ?_ GE357.out | refine qae ?_ GE358.out) | exact HB.out)))); have n7_ := qab.mk (qam (g := gb357) (o := .cells #[.int .i64 t349, .int .i64 t350, .slice Ao18 t351.length co18] 34 (0, 0)) (by (with_reducible repeat (first | refine qag ?_ _ | refine qaj ?_ | refine qaf ?_ _)); exact BK357.out) hb); have n8_ := qab.mk (qam (g := gb358) (o := .cells #[.slice Ao19 t354.length co19] 36 (0, 0)) (by (with_reducible repeat (first | refine qag ?_ _ | refine qaj ?_ | refine qaf ?_ _)); exact BK358.out) hb); have n9_ := qab.mk (qak (by repeat (first | (with_reducible first | exact HB.out | apply qad | apply qaa | apply qac | refine qae ?_ GE357.out | refine qae ?_ GE358.out) | exact HB.out)) hb); clear HO348; clear HO353; clear HO356; clear HO361; clear HO364; clear HO367; clear BK357; clear BK358; clear HB; have HO348 := n0_; have HO353 := n1_; have HO356 := n2_; have HO361 := n3_; have HO364 := n4_; have HO367 := n5_; have HO370 := n6_; have BK357 := n7_; have BK358 := n8_; have HB := n9_; clear n0_ n1_ n2_ n3_ n4_ n5_ n6_ n7_ n8_ n9_; (try clear hb); (try clear hb2); (try clear hk); (try clear hi); (try clear ho0); obtain ⟨Ao27, co27, eo27⟩ := Kd.qbj HO370.out; subst eo27) | (go_at_call 70; (with_reducible refine (impl_ShiftDepends.calls k _ _ t368 (-64) t371 _ ?side1 ?side2 A10.out).mono ?_); (case side1 => repeat (first | exact (Kd.qau HO370.out).2.2 | (with_reducible first | refine Kd.qaz ?_ _ | refine Kd.qay ?_ _ | refine Kd.qbd ?_))); (case side2 => exact (Kd.qau HO370.out).2.1); rintro e w28 ⟨v372, rfl, ho0, hb⟩; have n0_ := qab.mk (Kd.qbc (by (with_reducible repeat (first | apply Kd.qao | apply Kd.qan | apply Kd.qap)); exact HO348.out) (Kd.qbl ho0) hb); have n1_ := qab.mk (Kd.qav (by (with_reducible repeat (first | apply Kd.qao | apply Kd.qan | apply Kd.qap)); exact HO353.out) hb); have n2_ := qab.mk (Kd.qav (by (with_reducible repeat (first | apply Kd.qao | apply Kd.qan | apply Kd.qap)); exact HO356.out) hb); have n3_ := qab.mk (Kd.qbc (by (with_reducible repeat (first | apply Kd.qao | apply Kd.qan | apply Kd.qap)); exact HO361.out) (Kd.qbl ho0) hb); have n4_ := qab.mk (Kd.qbc (by (with_reducible repeat (first | apply Kd.qao | apply Kd.qan | apply Kd.qap)); exact HO364.out) (Kd.qbl ho0) hb); have n5_ := qab.mk (Kd.qbc (by (with_reducible repeat (first | apply Kd.qao | apply Kd.qan | apply Kd.qap)); exact HO367.out) (Kd.qbl ho0) hb); have n6_ := qab.mk (Kd.qbc (by (with_reducible repeat (first | apply Kd.qao | apply Kd.qan | apply Kd.qap)); exact HO370.out) (Kd.qbl ho0) hb); have n7_ := qab.mk (Kd.qbm (Kd.qbn (Kd.qbn (Kd.qbn (Kd.qbn (Kd.qbn ho0 (Kd.R_lt (by (with_reducible repeat (first | apply Kd.qao | apply Kd.qan | apply Kd.qap)); exact HO348.out))) (Kd.R_lt (by (with_reducible repeat (first | apply Kd.qao | apply Kd.qan | apply Kd.qap)); exact HO361.out))) (Kd.R_lt (by (with_reducible repeat (first | apply Kd.qao | apply Kd.qan | apply Kd.qap)); exact HO364.out))) (Kd.R_lt (by (with_reducible repeat (first | apply Kd.qao | apply Kd.qan | apply Kd.qap)); exact HO367.out))) (Kd.R_lt (by (with_reducible repeat (first | apply Kd.qao | apply Kd.qan | apply Kd.qap)); exact HO370.out))) (qal (by repeat (first | (with_reducible first | exact HB.out | apply qad | apply qaa | apply qac | refine qae ?_ GE357.out | refine qae ?_ GE358.out) | exact HB.out)))); have n8_ := qab.mk (qam (g := gb357) (o := .cells #[.int .i64 t349, .int .i64 t350, .slice Ao18 t351.length co18] 34 (0, 0)) (by (with_reducible repeat (first | refine qag ?_ _ | refine qaj ?_ | refine qaf ?_ _)); exact BK357.out) hb); have n9_ := qab.mk (qam (g := gb358) (o := .cells #[.slice Ao19 t354.length co19] 36 (0, 0)) (by (with_reducible repeat (first | refine qag ?_ _ | refine qaj ?_ | refine qaf ?_ _)); exact BK358.out) hb); have n10_ := qab.mk (qak (by repeat (first | (with_reducible first | exact HB.out | apply qad | apply qaa | apply qac | refine qae ?_ GE357.out | refine qae ?_ GE358.out) | exact HB.out)) hb); clear HO348; clear HO353; clear HO356; clear HO361; clear HO364; clear HO367; clear HO370; clear BK357; clear BK358; clear HB; have HO348 := n0_; have HO353 := n1_; have HO356 := n2_; have HO361 := n3_; have HO364 := n4_; have HO367 := n5_; have HO370 := n6_; have HO373 := n7_; have BK357 := n8_; have BK358 := n9_; have HB := n10_; clear n0_ n1_ n2_ n3_ n4_ n5_ n6_ n7_ n8_ n9_ n10_; (try clear hb); (try clear hb2); (try clear hk); (try clear hi); (try clear ho0)))
  repeat (go_quiet (first | (go_at_call 40; (with_reducible refine (laws_big.calls _ _ l0 false _ ?side1 ?side2 A2.out).mono ?_); (case side1 => repeat (first | exact HR0.out | (with_reducible first | refine Kd.qaz ?_ _ | refine Kd.qay ?_ _ | refine Kd.qbd ?_))); (case side2 => exact HC0.out); rintro e w' ⟨rfl, ⟨nd, rfl⟩⟩; (try first | exact ⟨rfl, _, World.drewN_drewN _ _ _⟩ | exact ⟨rfl, _, Eq.trans (World.drewN_drewN _ _ _) (congrArg (World.drewN _) (Nat.add_assoc _ _ _))⟩)) | (go_at_call 69; (with_reducible refine (spec_DrawDepends.calls k _ _ l0 t346 _ ?side1 ?side2 A4.out).mono ?_); (case side1 => repeat (first | exact HR0.out | (with_reducible first | refine Kd.qaz ?_ _ | refine Kd.qay ?_ _ | refine Kd.qbd ?_))); (case side2 => exact HC0.out); rintro e w12 ⟨v347, rfl, ho0, hb⟩; have n0_ := qab.mk (Kd.qbm ho0 (qal (by repeat (first | (with_reducible first | exact HB.out | apply qad | apply qaa | apply qac) | exact HB.out)))); have n1_ := qab.mk (qak (by repeat (first | (with_reducible first | exact HB.out | apply qad | apply qaa | apply qac) | exact HB.out)) hb); clear HB; have HO348 := n0_; have HB := n1_; clear n0_ n1_; (try clear hb); (try clear hb2); (try clear hk); (try clear hi); (try clear ho0)) | (go_at_call 50; (with_reducible refine (spec_DrawTable.calls k _ _ l0 t349 t350 t351 t354 _ ?side1 ?side2 A5.out).mono ?_); (case side1 => repeat (first | exact (Kd.qbf HR0.out HB.out) | (with_reducible first | refine Kd.qaz ?_ _ | refine Kd.qay ?_ _ | refine Kd.qbd ?_))); (case side2 => exact HC0.out); rintro e w13 ⟨v352, v355, rfl, ho0, ho1, hb⟩; have n0_ := qab.mk (Kd.qav (by (with_reducible repeat (first | apply Kd.qao | apply Kd.qan | apply Kd.qap)); exact HO348.out) hb); have n1_ := qab.mk (Kd.qbm ho0 (qal (by repeat (first | (with_reducible first | exact HB.out | apply qad | apply qaa | apply qac) | exact HB.out)))); have n2_ := qab.mk (Kd.qbm ho1 (qal (by repeat (first | (with_reducible first | exact HB.out | apply qad | apply qaa | apply qac) | exact HB.out)))); have n3_ := qab.mk (qak (by repeat (first | (with_reducible first | exact HB.out | apply qad | apply qaa | apply qac) | exact HB.out)) hb); clear HO348; clear HB; have HO348 := n0_; have HO353 := n1_; have HO356 := n2_; have HB := n3_; clear n0_ n1_ n2_ n3_; (try clear hb); (try clear hb2); (try clear hk); (try clear hi); (try clear ho0); (try clear ho1)) | ((with_reducible refine qas (N := 4) rfl ?_); (try (refine qbh (by rfl) ?_; dsimp only)); refine qar ?hg (N := 4) ?hd (cs := #[.int .i64 0, .int .i64 0, .slice none 0 0]) (t := 34) ?hr ?_; (case hd => rfl); (case hg => rfl); (case hr => first | (go_simp; done) | (go_simp; rfl)); intro gb357 hg w14 hbox hb; have n0_ := qab.mk (Kd.qav (by (with_reducible repeat (first | apply Kd.qao | apply Kd.qan | apply Kd.qap)); exact HO348.out) hb); have n1_ := qab.mk (Kd.qav (by (with_reducible repeat (first | apply Kd.qao | apply Kd.qan | apply Kd.qap)); exact HO353.out) hb); have n2_ := qab.mk (Kd.qav (by (with_reducible repeat (first | apply Kd.qao | apply Kd.qan | apply Kd.qap)); exact HO356.out) hb); have n3_ := qab.mk (qak (by repeat (first | (with_reducible first | exact HB.out | apply qad | apply qaa | apply qac) | exact HB.out)) hb); have n4_ := qab.mk (hbox); have n5_ := qab.mk ((by rw [hg]; exact (qal (by repeat (first | (with_reducible first | exact HB.out | apply qad | apply qaa | apply qac) | exact HB.out))) : w.heap.size ≤ gb357)); have n6_ := qab.mk ((by rw [hg]; exact (qal (by repeat (first | (with_reducible first | exact HB.out | apply qad | apply qaa | apply qac) | exact HB.out))) : w.heap.size ≤ gb357)); clear HO348; clear HO353; clear HO356; clear HB; have HO348 := n0_; have HO353 := n1_; have HO356 := n2_; have HB := n3_; have BK357 := n4_; have GW357 := n5_; have GE357 := n6_; clear n0_ n1_ n2_ n3_ n4_ n5_ n6_; clear hb hbox hg) | ((with_reducible refine qas (N := 5) rfl ?_); (try (refine qbh (by rfl) ?_; dsimp only)); refine qar ?hg (N := 5) ?hd (cs := #[.slice none 0 0]) (t := 36) ?hr ?_; (case hd => rfl); (case hg => rfl); (case hr => first | (go_simp; done) | (go_simp; rfl)); intro gb358 hg w15 hbox hb; have n0_ := qab.mk (Kd.qav (by (with_reducible repeat (first | apply Kd.qao | apply Kd.qan | apply Kd.qap)); exact HO348.out) hb); have n1_ := qab.mk (Kd.qav (by (with_reducible repeat (first | apply Kd.qao | apply Kd.qan | apply Kd.qap)); exact HO353.out) hb); have n2_ := qab.mk (Kd.qav (by (with_reducible repeat (first | apply Kd.qao | apply Kd.qan | apply Kd.qap)); exact HO356.out) hb); have n3_ := qab.mk (qam (g := gb357) (o := .cells #[.int .i64 0, .int .i64 0, .slice none 0 0] 34 (0, 0)) (by (with_reducible repeat (first | refine qag ?_ _ | refine qaj ?_ | refine qaf ?_ _)); exact BK357.out) hb); have n4_ := qab.mk (qak (by repeat (first | (with_reducible first | exact HB.out | apply qad | apply qaa | apply qac | refine qae ?_ GE357.out) | exact HB.out)) hb); have n5_ := qab.mk (hbox); have n6_ := qab.mk ((by rw [hg]; exact (qal (by repeat (first | (with_reducible first | exact HB.out | apply qad | apply qaa | apply qac | refine qae ?_ GE357.out) | exact HB.out))) : w.heap.size ≤ gb358)); have n7_ := qab.mk ((by rw [hg]; exact (qal (by repeat (first | (with_reducible first | exact HB.out | apply qad | apply qaa | apply qac | refine qae ?_ GE357.out) | exact HB.out))) : w.heap.size ≤ gb358)); have n8_ := qab.mk ((by rw [hg]; exact Nat.ne_of_lt (qbo (g := gb357) (o := .cells #[.int .i64 0, .int .i64 0, .slice none 0 0] 34 (0, 0)) (by (with_reducible repeat (first | refine qag ?_ _ | refine qaj ?_ | refine qaf ?_ _)); exact BK357.out)) : gb357 ≠ gb358)); have n9_ := qab.mk ((by rw [hg]; exact Nat.ne_of_gt (qbo (g := gb357) (o := .cells #[.int .i64 0, .int .i64 0, .slice none 0 0] 34 (0, 0)) (by (with_reducible repeat (first | refine qag ?_ _ | refine qaj ?_ | refine qaf ?_ _)); exact BK357.out)) : gb358 ≠ gb357)); clear HO348; clear HO353; clear HO356; clear BK357; clear HB; have HO348 := n0_; have HO353 := n1_; have HO356 := n2_; have BK357 := n3_; have HB := n4_; have BK358 := n5_; have GW358 := n6_; have GE358 := n7_; have NB357_358 := n8_; have NB358_357 := n9_; clear n0_ n1_ n2_ n3_ n4_ n5_ n6_ n7_ n8_ n9_; clear hb hbox hg; have hnb16 := NB357_358.out; have hnc16 := NB358_357.out; have hcz17_0 : w15.cell? ⟨gb357, 0, none⟩ = some (.int .i64 0) := (qai BK357.out 0).trans rfl; have hcz17_1 : w15.cell? ⟨gb357, 1, none⟩ = some (.int .i64 0) := (qai BK357.out 1).trans rfl; have hcz17_2 : w15.cell? ⟨gb357, 2, none⟩ = some (.slice none 0 0) := (qai BK357.out 2).trans rfl; have hfz17_0 := qah BK357.out 0; have hfz17_1 := qah BK357.out 1; have hfz17_2 := qah BK357.out 2; obtain ⟨Ao18, co18, eo18⟩ := Kd.qbj HO353.out; subst eo18; obtain ⟨Ao19, co19, eo19⟩ := Kd.qbj HO356.out; subst eo19; have hcz20_0 : w15.cell? ⟨gb358, 0, none⟩ = some (.slice none 0 0) := (qai BK358.out 0).trans rfl; have hfz20_0 := qah BK358.out 0) | (go_at_call 32; (with_reducible refine (impl_DependsOf.calls k t349 t350 _ _ t351 _ _ t354 t359 _ ?side1 ?side2 ?side3 ?side4 A6.out).mono ?_); (case side1 => refine (Kd.qau (e := 3) (base := w.heap.size) (ok := fun k_ => some k_ ≠ (.slice Ao19 t354.length co19 : Value).ownBlock) (n := t351.length) (c := co18) ?_).2.2; exact (by (with_reducible repeat (first | apply Kd.qao | apply Kd.qan | apply Kd.qap)); exact (Kd.qbb (Kd.qbb (Kd.R_far (p := ⟨gb358, 0, none⟩) (Kd.R_far (p := ⟨gb357, 2, none⟩) (Kd.R_far (p := ⟨gb357, 1, none⟩) (Kd.R_far (p := ⟨gb357, 0, none⟩) (Kd.qbg (Kd.qbg HO353.out BK357.out (by decide)) BK358.out (by decide)) (fun _ hk => by first | exact hk.1.2 | (simp_all; done) | grind) (.int .i64 t349)) (fun _ hk => by first | exact hk.1.2 | (simp_all; done) | grind) (.int .i64 t350)) (fun _ hk => by first | exact hk.1.2 | (simp_all; done) | grind) (.slice Ao18 t351.length co18)) (fun _ hk => by first | exact hk.2 | (simp_all; done) | grind) (.slice Ao19 t354.length co19)) (fun _ h_ => h_.1)) (fun _ h_ => h_.1)))); (case side2 => exact (Kd.qau HO353.out).2.1); (case side3 => refine (Kd.qau (e := 3) (base := w.heap.size) (ok := fun k_ => some k_ ≠ (.slice Ao18 t351.length co18 : Value).ownBlock) (n := t354.length) (c := co19) ?_).2.2; exact (by (with_reducible repeat (first | apply Kd.qao | apply Kd.qan | apply Kd.qap)); exact (Kd.qbb (Kd.qbb (Kd.R_far (p := ⟨gb358, 0, none⟩) (Kd.R_far (p := ⟨gb357, 2, none⟩) (Kd.R_far (p := ⟨gb357, 1, none⟩) (Kd.R_far (p := ⟨gb357, 0, none⟩) (Kd.qbg (Kd.qbg HO356.out BK357.out (by decide)) BK358.out (by decide)) (fun _ hk => by first | exact hk.1.2 | (simp_all; done) | grind) (.int .i64 t349)) (fun _ hk => by first | exact hk.1.2 | (simp_all; done) | grind) (.int .i64 t350)) (fun _ hk => by first | exact hk.1.2 | (simp_all; done) | grind) (.slice Ao18 t351.length co18)) (fun _ hk => by first | exact hk.2 | (simp_all; done) | grind) (.slice Ao19 t354.length co19)) (fun _ h_ => h_.1)) (fun _ h_ => h_.1)))); (case side4 => exact (Kd.qau HO356.out).2.1); rintro e w21 ⟨v360, rfl, ho0, hb⟩; have n0_ := qab.mk (Kd.qbc (by (with_reducible repeat (first | apply Kd.qao | apply Kd.qan | apply Kd.qap)); exact (Kd.qbb (Kd.qbb (Kd.R_far (p := ⟨gb358, 0, none⟩) (Kd.R_far (p := ⟨gb357, 2, none⟩) (Kd.R_far (p := ⟨gb357, 1, none⟩) (Kd.R_far (p := ⟨gb357, 0, none⟩) (Kd.qbg (Kd.qbg HO348.out BK357.out (by decide)) BK358.out (by decide)) (fun _ hk => by first | exact hk.1.2 | (simp_all; done) | grind) (.int .i64 t349)) (fun _ hk => by first | exact hk.1.2 | (simp_all; done) | grind) (.int .i64 t350)) (fun _ hk => by first | exact hk.1.2 | (simp_all; done) | grind) (.slice Ao18 t351.length co18)) (fun _ hk => by first | exact hk.2 | (simp_all; done) | grind) (.slice Ao19 t354.length co19)) (fun _ h_ => h_.1)) (fun _ h_ => h_.1))) (Kd.qbl ho0) hb); have n1_ := qab.mk (Kd.qav (by (with_reducible repeat (first | apply Kd.qao | apply Kd.qan | apply Kd.qap)); exact (Kd.qbb (Kd.qbb (Kd.R_far (p := ⟨gb358, 0, none⟩) (Kd.R_far (p := ⟨gb357, 2, none⟩) (Kd.R_far (p := ⟨gb357, 1, none⟩) (Kd.R_far (p := ⟨gb357, 0, none⟩) (Kd.qbg (Kd.qbg HO353.out BK357.out (by decide)) BK358.out (by decide)) (fun _ hk => by first | exact hk.1.2 | (simp_all; done) | grind) (.int .i64 t349)) (fun _ hk => by first | exact hk.1.2 | (simp_all; done) | grind) (.int .i64 t350)) (fun _ hk => by first | exact hk.1.2 | (simp_all; done) | grind) (.slice Ao18 t351.length co18)) (fun _ hk => by first | exact hk.2 | (simp_all; done) | grind) (.slice Ao19 t354.length co19)) (fun _ h_ => h_.1)) (fun _ h_ => h_.1))) hb); have n2_ := qab.mk (Kd.qav (by (with_reducible repeat (first | apply Kd.qao | apply Kd.qan | apply Kd.qap)); exact (Kd.qbb (Kd.qbb (Kd.R_far (p := ⟨gb358, 0, none⟩) (Kd.R_far (p := ⟨gb357, 2, none⟩) (Kd.R_far (p := ⟨gb357, 1, none⟩) (Kd.R_far (p := ⟨gb357, 0, none⟩) (Kd.qbg (Kd.qbg HO356.out BK357.out (by decide)) BK358.out (by decide)) (fun _ hk => by first | exact hk.1.2 | (simp_all; done) | grind) (.int .i64 t349)) (fun _ hk => by first | exact hk.1.2 | (simp_all; done) | grind) (.int .i64 t350)) (fun _ hk => by first | exact hk.1.2 | (simp_all; done) | grind) (.slice Ao18 t351.length co18)) (fun _ hk => by first | exact hk.2 | (simp_all; done) | grind) (.slice Ao19 t354.length co19)) (fun _ h_ => h_.1)) (fun _ h_ => h_.1))) hb); have n3_ := qab.mk (Kd.qbm (Kd.qbn ho0 (Kd.R_lt (by (with_reducible repeat (first | apply Kd.qao | apply Kd.qan | apply Kd.qap)); exact (Kd.qbb (Kd.qbb (Kd.R_far (p := ⟨gb358, 0, none⟩) (Kd.R_far (p := ⟨gb357, 2, none⟩) (Kd.R_far (p := ⟨gb357, 1, none⟩) (Kd.R_far (p := ⟨gb357, 0, none⟩) (Kd.qbg (Kd.qbg HO348.out BK357.out (by decide)) BK358.out (by decide)) (fun _ hk => by first | exact hk.1.2 | (simp_all; done) | grind) (.int .i64 t349)) (fun _ hk => by first | exact hk.1.2 | (simp_all; done) | grind) (.int .i64 t350)) (fun _ hk => by first | exact hk.1.2 | (simp_all; done) | grind) (.slice Ao18 t351.length co18)) (fun _ hk => by first | exact hk.2 | (simp_all; done) | grind) (.slice Ao19 t354.length co19)) (fun _ h_ => h_.1)) (fun _ h_ => h_.1))))) (qal (by repeat (first | (with_reducible first | exact HB.out | apply qad | apply qaa | apply qac | refine qae ?_ GE357.out | refine qae ?_ GE358.out) | exact HB.out)))); have n4_ := qab.mk (qam (g := gb357) (o := .cells #[.int .i64 t349, .int .i64 t350, .slice Ao18 t351.length co18] 34 (0, 0)) (by (with_reducible repeat (first | refine qag ?_ _ | refine qaj ?_ | refine qaf ?_ _)); refine qbq ?_ NB357_358.out _; (with_reducible repeat (first | refine qag ?_ _ | refine qaj ?_ | refine qaf ?_ _)); refine qbi (cs := #[.int .i64 t349, .int .i64 t350, .slice none 0 0]) ?_ 2 _ rfl; (with_reducible repeat (first | refine qag ?_ _ | refine qaj ?_ | refine qaf ?_ _)); refine qbi (cs := #[.int .i64 t349, .int .i64 0, .slice none 0 0]) ?_ 1 _ rfl; (with_reducible repeat (first | refine qag ?_ _ | refine qaj ?_ | refine qaf ?_ _)); refine qbi (cs := #[.int .i64 0, .int .i64 0, .slice none 0 0]) ?_ 0 _ rfl; (with_reducible repeat (first | refine qag ?_ _ | refine qaj ?_ | refine qaf ?_ _)); exact BK357.out) hb); have n5_ := qab.mk (qam (g := gb358) (o := .cells #[.slice Ao19 t354.length co19] 36 (0, 0)) (by (with_reducible repeat (first | refine qag ?_ _ | refine qaj ?_ | refine qaf ?_ _)); refine qbi (cs := #[.slice none 0 0]) ?_ 0 _ rfl; (with_reducible repeat (first | refine qag ?_ _ | refine qaj ?_ | refine qaf ?_ _)); refine qbq ?_ NB358_357.out _; (with_reducible repeat (first | refine qag ?_ _ | refine qaj ?_ | refine qaf ?_ _)); refine qbq ?_ NB358_357.out _; (with_reducible repeat (first | refine qag ?_ _ | refine qaj ?_ | refine qaf ?_ _)); refine qbq ?_ NB358_357.out _; (with_reducible repeat (first | refine qag ?_ _ | refine qaj ?_ | refine qaf ?_ _)); exact BK358.out) hb); have n6_ := qab.mk (qak (by repeat (first | (with_reducible first | exact HB.out | apply qad | apply qaa | apply qac | refine qae ?_ GE357.out | refine qae ?_ GE358.out) | exact HB.out)) hb); clear HO348; clear HO353; clear HO356; clear BK357; clear BK358; clear HB; have HO348 := n0_; have HO353 := n1_; have HO356 := n2_; have HO361 := n3_; have BK357 := n4_; have BK358 := n5_; have HB := n6_; clear n0_ n1_ n2_ n3_ n4_ n5_ n6_; (try clear hb); (try clear hb2); (try clear hk); (try clear hi); (try clear ho0); obtain ⟨Ao22, co22, eo22⟩ := Kd.qbj HO348.out; subst eo22; obtain ⟨Ao23, co23, eo23⟩ := Kd.qbj HO361.out; subst eo23) | (go_at_call 61; (with_reducible refine (impl_MergeDepends.calls k _ _ t346 _ _ t359 t362 _ ?side1 ?side2 ?side3 ?side4 A7.out).mono ?_); (case side1 => repeat (first | exact (Kd.qau HO348.out).2.2 | (with_reducible first | refine Kd.qaz ?_ _ | refine Kd.qay ?_ _ | refine Kd.qbd ?_))); (case side2 => exact (Kd.qau HO348.out).2.1); (case side3 => repeat (first | exact (Kd.qau HO361.out).2.2 | (with_reducible first | refine Kd.qaz ?_ _ | refine Kd.qay ?_ _ | refine Kd.qbd ?_))); (case side4 => exact (Kd.qau HO361.out).2.1); rintro e w24 ⟨v363, rfl, ho0, hb⟩; have n0_ := qab.mk (Kd.qbc (by (with_reducible repeat (first | apply Kd.qao | apply Kd.qan | apply Kd.qap)); exact HO348.out) (Kd.qbl ho0) hb); have n1_ := qab.mk (Kd.qav (by (with_reducible repeat (first | apply Kd.qao | apply Kd.qan | apply Kd.qap)); exact HO353.out) hb); have n2_ := qab.mk (Kd.qav (by (with_reducible repeat (first | apply Kd.qao | apply Kd.qan | apply Kd.qap)); exact HO356.out) hb); have n3_ := qab.mk (Kd.qbc (by (with_reducible repeat (first | apply Kd.qao | apply Kd.qan | apply Kd.qap)); exact HO361.out) (Kd.qbl ho0) hb); have n4_ := qab.mk (Kd.qbm (Kd.qbn (Kd.qbn ho0 (Kd.R_lt (by (with_reducible repeat (first | apply Kd.qao | apply Kd.qan | apply Kd.qap)); exact HO348.out))) (Kd.R_lt (by (with_reducible repeat (first | apply Kd.qao | apply Kd.qan | apply Kd.qap)); exact HO361.out))) (qal (by repeat (first | (with_reducible first | exact HB.out | apply qad | apply qaa | apply qac | refine qae ?_ GE357.out | refine qae ?_ GE358.out) | exact HB.out)))); have n5_ := qab.mk (qam (g := gb357) (o := .cells #[.int .i64 t349, .int .i64 t350, .slice Ao18 t351.length co18] 34 (0, 0)) (by (with_reducible repeat (first | refine qag ?_ _ | refine qaj ?_ | refine qaf ?_ _)); exact BK357.out) hb); have n6_ := qab.mk (qam (g := gb358) (o := .cells #[.slice Ao19 t354.length co19] 36 (0, 0)) (by (with_reducible repeat (first | refine qag ?_ _ | refine qaj ?_ | refine qaf ?_ _)); exact BK358.out) hb); have n7_ := qab.mk (qak (by repeat (first | (with_reducible first | exact HB.out | apply qad | apply qaa | apply qac | refine qae ?_ GE357.out | refine qae ?_ GE358.out) | exact HB.out)) hb); clear HO348; clear HO353; clear HO356; clear HO361; clear BK357; clear BK358; clear HB; have HO348 := n0_; have HO353 := n1_; have HO356 := n2_; have HO361 := n3_; have HO364 := n4_; have BK357 := n5_; have BK358 := n6_; have HB := n7_; clear n0_ n1_ n2_ n3_ n4_ n5_ n6_ n7_; (try clear hb); (try clear hb2); (try clear hk); (try clear hi); (try clear ho0)) | (go_at_call 61; (with_reducible refine (impl_MergeDepends.calls k _ _ t359 _ _ t346 t365 _ ?side1 ?side2 ?side3 ?side4 A8.out).mono ?_); (case side1 => repeat (first | exact (Kd.qau HO361.out).2.2 | (with_reducible first | refine Kd.qaz ?_ _ | refine Kd.qay ?_ _ | refine Kd.qbd ?_))); (case side2 => exact (Kd.qau HO361.out).2.1); (case side3 => repeat (first | exact (Kd.qau HO348.out).2.2 | (with_reducible first | refine Kd.qaz ?_ _ | refine Kd.qay ?_ _ | refine Kd.qbd ?_))); (case side4 => exact (Kd.qau HO348.out).2.1); rintro e w25 ⟨v366, rfl, ho0, hb⟩; have n0_ := qab.mk (Kd.qbc (by (with_reducible repeat (first | apply Kd.qao | apply Kd.qan | apply Kd.qap)); exact HO348.out) (Kd.qbl ho0) hb); have n1_ := qab.mk (Kd.qav (by (with_reducible repeat (first | apply Kd.qao | apply Kd.qan | apply Kd.qap)); exact HO353.out) hb); have n2_ := qab.mk (Kd.qav (by (with_reducible repeat (first | apply Kd.qao | apply Kd.qan | apply Kd.qap)); exact HO356.out) hb); have n3_ := qab.mk (Kd.qbc (by (with_reducible repeat (first | apply Kd.qao | apply Kd.qan | apply Kd.qap)); exact HO361.out) (Kd.qbl ho0) hb); have n4_ := qab.mk (Kd.qbc (by (with_reducible repeat (first | apply Kd.qao | apply Kd.qan | apply Kd.qap)); exact HO364.out) (Kd.qbl ho0) hb); have n5_ := qab.mk (Kd.qbm (Kd.qbn (Kd.qbn (Kd.qbn ho0 (Kd.R_lt (by (with_reducible repeat (first | apply Kd.qao | apply Kd.qan | apply Kd.qap)); exact HO348.out))) (Kd.R_lt (by (with_reducible repeat (first | apply Kd.qao | apply Kd.qan | apply Kd.qap)); exact HO361.out))) (Kd.R_lt (by (with_reducible repeat (first | apply Kd.qao | apply Kd.qan | apply Kd.qap)); exact HO364.out))) (qal (by repeat (first | (with_reducible first | exact HB.out | apply qad | apply qaa | apply qac | refine qae ?_ GE357.out | refine qae ?_ GE358.out) | exact HB.out)))); have n6_ := qab.mk (qam (g := gb357) (o := .cells #[.int .i64 t349, .int .i64 t350, .slice Ao18 t351.length co18] 34 (0, 0)) (by (with_reducible repeat (first | refine qag ?_ _ | refine qaj ?_ | refine qaf ?_ _)); exact BK357.out) hb); have n7_ := qab.mk (qam (g := gb358) (o := .cells #[.slice Ao19 t354.length co19] 36 (0, 0)) (by (with_reducible repeat (first | refine qag ?_ _ | refine qaj ?_ | refine qaf ?_ _)); exact BK358.out) hb); have n8_ := qab.mk (qak (by repeat (first | (with_reducible first | exact HB.out | apply qad | apply qaa | apply qac | refine qae ?_ GE357.out | refine qae ?_ GE358.out) | exact HB.out)) hb); clear HO348; clear HO353; clear HO356; clear HO361; clear HO364; clear BK357; clear BK358; clear HB; have HO348 := n0_; have HO353 := n1_; have HO356 := n2_; have HO361 := n3_; have HO364 := n4_; have HO367 := n5_; have BK357 := n6_; have BK358 := n7_; have HB := n8_; clear n0_ n1_ n2_ n3_ n4_ n5_ n6_ n7_ n8_; (try clear hb); (try clear hb2); (try clear hk); (try clear hi); (try clear ho0)) | (go_at_call 70; (with_reducible refine (impl_ShiftDepends.calls k _ _ t346 64 t368 _ ?side1 ?side2 A9.out).mono ?_); (case side1 => repeat (first | exact (Kd.qau HO348.out).2.2 | (with_reducible first | refine Kd.qaz ?_ _ | refine Kd.qay ?_ _ | refine Kd.qbd ?_))); (case side2 => exact (Kd.qau HO348.out).2.1); rintro e w26 ⟨v369, rfl, ho0, hb⟩; have n0_ := qab.mk (Kd.qbc (by (with_reducible repeat (first | apply Kd.qao | apply Kd.qan | apply Kd.qap)); exact HO348.out) (Kd.qbl ho0) hb); have n1_ := qab.mk (Kd.qav (by (with_reducible repeat (first | apply Kd.qao | apply Kd.qan | apply Kd.qap)); exact HO353.out) hb); have n2_ := qab.mk (Kd.qav (by (with_reducible repeat (first | apply Kd.qao | apply Kd.qan | apply Kd.qap)); exact HO356.out) hb); have n3_ := qab.mk (Kd.qbc (by (with_reducible repeat (first | apply Kd.qao | apply Kd.qan | apply Kd.qap)); exact HO361.out) (Kd.qbl ho0) hb); have n4_ := qab.mk (Kd.qbc (by (with_reducible repeat (first | apply Kd.qao | apply Kd.qan | apply Kd.qap)); exact HO364.out) (Kd.qbl ho0) hb); have n5_ := qab.mk (Kd.qbc (by (with_reducible repeat (first | apply Kd.qao | apply Kd.qan | apply Kd.qap)); exact HO367.out) (Kd.qbl ho0) hb); have n6_ := qab.mk (Kd.qbm (Kd.qbn (Kd.qbn (Kd.qbn (Kd.qbn ho0 (Kd.R_lt (by (with_reducible repeat (first | apply Kd.qao | apply Kd.qan | apply Kd.qap)); exact HO348.out))) (Kd.R_lt (by (with_reducible repeat (first | apply Kd.qao | apply Kd.qan | apply Kd.qap)); exact HO361.out))) (Kd.R_lt (by (with_reducible repeat (first | apply Kd.qao | apply Kd.qan | apply Kd.qap)); exact HO364.out))) (Kd.R_lt (by (with_reducible repeat (first | apply Kd.qao | apply Kd.qan | apply Kd.qap)); exact HO367.out))) (qal (by repeat (first | (with_reducible first | exact HB.out | apply qad | apply qaa | apply qac | refine qae ?_ GE357.out | refine qae ?_ GE358.out) | exact HB.out)))); have n7_ := qab.mk (qam (g := gb357) (o := .cells #[.int .i64 t349, .int .i64 t350, .slice Ao18 t351.length co18] 34 (0, 0)) (by (with_reducible repeat (first | refine qag ?_ _ | refine qaj ?_ | refine qaf ?_ _)); exact BK357.out) hb); have n8_ := qab.mk (qam (g := gb358) (o := .cells #[.slice Ao19 t354.length co19] 36 (0, 0)) (by (with_reducible repeat (first | refine qag ?_ _ | refine qaj ?_ | refine qaf ?_ _)); exact BK358.out) hb); have n9_ := qab.mk (qak (by repeat (first | (with_reducible first | exact HB.out | apply qad | apply qaa | apply qac | refine qae ?_ GE357.out | refine qae ?_ GE358.out) | exact HB.out)) hb); clear HO348; clear HO353; clear HO356; clear HO361; clear HO364; clear HO367; clear BK357; clear BK358; clear HB; have HO348 := n0_; have HO353 := n1_; have HO356 := n2_; have HO361 := n3_; have HO364 := n4_; have HO367 := n5_; have HO370 := n6_; have BK357 := n7_; have BK358 := n8_; have HB := n9_; clear n0_ n1_ n2_ n3_ n4_ n5_ n6_ n7_ n8_ n9_; (try clear hb); (try clear hb2); (try clear hk); (try clear hi); (try clear ho0); obtain ⟨Ao27, co27, eo27⟩ := Kd.qbj HO370.out; subst eo27) | (go_at_call 70; (with_reducible refine (impl_ShiftDepends.calls k _ _ t368 (-64) t371 _ ?side1 ?side2 A10.out).mono ?_); (case side1 => repeat (first | exact (Kd.qau HO370.out).2.2 | (with_reducible first | refine Kd.qaz ?_ _ | refine Kd.qay ?_ _ | refine Kd.qbd ?_))); (case side2 => exact (Kd.qau HO370.out).2.1); rintro e w28 ⟨v372, rfl, ho0, hb⟩; have n0_ := qab.mk (Kd.qbc (by (with_reducible repeat (first | apply Kd.qao | apply Kd.qan | apply Kd.qap)); exact HO348.out) (Kd.qbl ho0) hb); have n1_ := qab.mk (Kd.qav (by (with_reducible repeat (first | apply Kd.qao | apply Kd.qan | apply Kd.qap)); exact HO353.out) hb); have n2_ := qab.mk (Kd.qav (by (with_reducible repeat (first | apply Kd.qao | apply Kd.qan | apply Kd.qap)); exact HO356.out) hb); have n3_ := qab.mk (Kd.qbc (by (with_reducible repeat (first | apply Kd.qao | apply Kd.qan | apply Kd.qap)); exact HO361.out) (Kd.qbl ho0) hb); have n4_ := qab.mk (Kd.qbc (by (with_reducible repeat (first | apply Kd.qao | apply Kd.qan | apply Kd.qap)); exact HO364.out) (Kd.qbl ho0) hb); have n5_ := qab.mk (Kd.qbc (by (with_reducible repeat (first | apply Kd.qao | apply Kd.qan | apply Kd.qap)); exact HO367.out) (Kd.qbl ho0) hb); have n6_ := qab.mk (Kd.qbc (by (with_reducible repeat (first | apply Kd.qao | apply Kd.qan | apply Kd.qap)); exact HO370.out) (Kd.qbl ho0) hb); have n7_ := qab.mk (Kd.qbm (Kd.qbn (Kd.qbn (Kd.qbn (Kd.qbn (Kd.qbn ho0 (Kd.R_lt (by (with_reducible repeat (first | apply Kd.qao | apply Kd.qan | apply Kd.qap)); exact HO348.out))) (Kd.R_lt (by (with_reducible repeat (first | apply Kd.qao | apply Kd.qan | apply Kd.qap)); exact HO361.out))) (Kd.R_lt (by (with_reducible repeat (first | apply Kd.qao | apply Kd.qan | apply Kd.qap)); exact HO364.out))) (Kd.R_lt (by (with_reducible repeat (first | apply Kd.qao | apply Kd.qan | apply Kd.qap)); exact HO367.out))) (Kd.R_lt (by (with_reducible repeat (first | apply Kd.qao | apply Kd.qan | apply Kd.qap)); exact HO370.out))) (qal (by repeat (first | (with_reducible first | exact HB.out | apply qad | apply qaa | apply qac | refine qae ?_ GE357.out | refine qae ?_ GE358.out) | exact HB.out)))); have n8_ := qab.mk (qam (g := gb357) (o := .cells #[.int .i64 t349, .int .i64 t350, .slice Ao18 t351.length co18] 34 (0, 0)) (by (with_reducible repeat (first | refine qag ?_ _ | refine qaj ?_ | refine qaf ?_ _)); exact BK357.out) hb); have n9_ := qab.mk (qam (g := gb358) (o := .cells #[.slice Ao19 t354.length co19] 36 (0, 0)) (by (with_reducible repeat (first | refine qag ?_ _ | refine qaj ?_ | refine qaf ?_ _)); exact BK358.out) hb); have n10_ := qab.mk (qak (by repeat (first | (with_reducible first | exact HB.out | apply qad | apply qaa | apply qac | refine qae ?_ GE357.out | refine qae ?_ GE358.out) | exact HB.out)) hb); clear HO348; clear HO353; clear HO356; clear HO361; clear HO364; clear HO367; clear HO370; clear BK357; clear BK358; clear HB; have HO348 := n0_; have HO353 := n1_; have HO356 := n2_; have HO361 := n3_; have HO364 := n4_; have HO367 := n5_; have HO370 := n6_; have HO373 := n7_; have BK357 := n8_; have BK358 := n9_; have HB := n10_; clear n0_ n1_ n2_ n3_ n4_ n5_ n6_ n7_ n8_ n9_ n10_; (try clear hb); (try clear hb2); (try clear hk); (try clear hi); (try clear ho0))); go_upto_region 10 with (first | (go_at_call 40; (with_reducible refine (laws_big.calls _ _ l0 false _ ?side1 ?side2 A2.out).mono ?_); (case side1 => repeat (first | exact HR0.out | (with_reducible first | refine Kd.qaz ?_ _ | refine Kd.qay ?_ _ | refine Kd.qbd ?_))); (case side2 => exact HC0.out); rintro e w' ⟨rfl, ⟨nd, rfl⟩⟩; (try first | exact ⟨rfl, _, World.drewN_drewN _ _ _⟩ | exact ⟨rfl, _, Eq.trans (World.drewN_drewN _ _ _) (congrArg (World.drewN _) (Nat.add_assoc _ _ _))⟩)) | (go_at_call 69; (with_reducible refine (spec_DrawDepends.calls k _ _ l0 t346 _ ?side1 ?side2 A4.out).mono ?_); (case side1 => repeat (first | exact HR0.out | (with_reducible first | refine Kd.qaz ?_ _ | refine Kd.qay ?_ _ | refine Kd.qbd ?_))); (case side2 => exact HC0.out); rintro e w12 ⟨v347, rfl, ho0, hb⟩; have n0_ := qab.mk (Kd.qbm ho0 (qal (by repeat (first | (with_reducible first | exact HB.out | apply qad | apply qaa | apply qac) | exact HB.out)))); have n1_ := qab.mk (qak (by repeat (first | (with_reducible first | exact HB.out | apply qad | apply qaa | apply qac) | exact HB.out)) hb); clear HB; have HO348 := n0_; have HB := n1_; clear n0_ n1_; (try clear hb); (try clear hb2); (try clear hk); (try clear hi); (try clear ho0)) | (go_at_call 50; (with_reducible refine (spec_DrawTable.calls k _ _ l0 t349 t350 t351 t354 _ ?side1 ?side2 A5.out).mono ?_); (case side1 => repeat (first | exact (Kd.qbf HR0.out HB.out) | (with_reducible first | refine Kd.qaz ?_ _ | refine Kd.qay ?_ _ | refine Kd.qbd ?_))); (case side2 => exact HC0.out); rintro e w13 ⟨v352, v355, rfl, ho0, ho1, hb⟩; have n0_ := qab.mk (Kd.qav (by (with_reducible repeat (first | apply Kd.qao | apply Kd.qan | apply Kd.qap)); exact HO348.out) hb); have n1_ := qab.mk (Kd.qbm ho0 (qal (by repeat (first | (with_reducible first | exact HB.out | apply qad | apply qaa | apply qac) | exact HB.out)))); have n2_ := qab.mk (Kd.qbm ho1 (qal (by repeat (first | (with_reducible first | exact HB.out | apply qad | apply qaa | apply qac) | exact HB.out)))); have n3_ := qab.mk (qak (by repeat (first | (with_reducible first | exact HB.out | apply qad | apply qaa | apply qac) | exact HB.out)) hb); clear HO348; clear HB; have HO348 := n0_; have HO353 := n1_; have HO356 := n2_; have HB := n3_; clear n0_ n1_ n2_ n3_; (try clear hb); (try clear hb2); (try clear hk); (try clear hi); (try clear ho0); (try clear ho1)) | ((with_reducible refine qas (N := 4) rfl ?_); (try (refine qbh (by rfl) ?_; dsimp only)); refine qar ?hg (N := 4) ?hd (cs := #[.int .i64 0, .int .i64 0, .slice none 0 0]) (t := 34) ?hr ?_; (case hd => rfl); (case hg => rfl); (case hr => first | (go_simp; done) | (go_simp; rfl)); intro gb357 hg w14 hbox hb; have n0_ := qab.mk (Kd.qav (by (with_reducible repeat (first | apply Kd.qao | apply Kd.qan | apply Kd.qap)); exact HO348.out) hb); have n1_ := qab.mk (Kd.qav (by (with_reducible repeat (first | apply Kd.qao | apply Kd.qan | apply Kd.qap)); exact HO353.out) hb); have n2_ := qab.mk (Kd.qav (by (with_reducible repeat (first | apply Kd.qao | apply Kd.qan | apply Kd.qap)); exact HO356.out) hb); have n3_ := qab.mk (qak (by repeat (first | (with_reducible first | exact HB.out | apply qad | apply qaa | apply qac) | exact HB.out)) hb); have n4_ := qab.mk (hbox); have n5_ := qab.mk ((by rw [hg]; exact (qal (by repeat (first | (with_reducible first | exact HB.out | apply qad | apply qaa | apply qac) | exact HB.out))) : w.heap.size ≤ gb357)); have n6_ := qab.mk ((by rw [hg]; exact (qal (by repeat (first | (with_reducible first | exact HB.out | apply qad | apply qaa | apply qac) | exact HB.out))) : w.heap.size ≤ gb357)); clear HO348; clear HO353; clear HO356; clear HB; have HO348 := n0_; have HO353 := n1_; have HO356 := n2_; have HB := n3_; have BK357 := n4_; have GW357 := n5_; have GE357 := n6_; clear n0_ n1_ n2_ n3_ n4_ n5_ n6_; clear hb hbox hg) | ((with_reducible refine qas (N := 5) rfl ?_); (try (refine qbh (by rfl) ?_; dsimp only)); refine qar ?hg (N := 5) ?hd (cs := #[.slice none 0 0]) (t := 36) ?hr ?_; (case hd => rfl); (case hg => rfl); (case hr => first | (go_simp; done) | (go_simp; rfl)); intro gb358 hg w15 hbox hb; have n0_ := qab.mk (Kd.qav (by (with_reducible repeat (first | apply Kd.qao | apply Kd.qan | apply Kd.qap)); exact HO348.out) hb); have n1_ := qab.mk (Kd.qav (by (with_reducible repeat (first | apply Kd.qao | apply Kd.qan | apply Kd.qap)); exact HO353.out) hb); have n2_ := qab.mk (Kd.qav (by (with_reducible repeat (first | apply Kd.qao | apply Kd.qan | apply Kd.qap)); exact HO356.out) hb); have n3_ := qab.mk (qam (g := gb357) (o := .cells #[.int .i64 0, .int .i64 0, .slice none 0 0] 34 (0, 0)) (by (with_reducible repeat (first | refine qag ?_ _ | refine qaj ?_ | refine qaf ?_ _)); exact BK357.out) hb); have n4_ := qab.mk (qak (by repeat (first | (with_reducible first | exact HB.out | apply qad | apply qaa | apply qac | refine qae ?_ GE357.out) | exact HB.out)) hb); have n5_ := qab.mk (hbox); have n6_ := qab.mk ((by rw [hg]; exact (qal (by repeat (first | (with_reducible first | exact HB.out | apply qad | apply qaa | apply qac | refine qae ?_ GE357.out) | exact HB.out))) : w.heap.size ≤ gb358)); have n7_ := qab.mk ((by rw [hg]; exact (qal (by repeat (first | (with_reducible first | exact HB.out | apply qad | apply qaa | apply qac | refine qae ?_ GE357.out) | exact HB.out))) : w.heap.size ≤ gb358)); have n8_ := qab.mk ((by rw [hg]; exact Nat.ne_of_lt (qbo (g := gb357) (o := .cells #[.int .i64 0, .int .i64 0, .slice none 0 0] 34 (0, 0)) (by (with_reducible repeat (first | refine qag ?_ _ | refine qaj ?_ | refine qaf ?_ _)); exact BK357.out)) : gb357 ≠ gb358)); have n9_ := qab.mk ((by rw [hg]; exact Nat.ne_of_gt (qbo (g := gb357) (o := .cells #[.int .i64 0, .int .i64 0, .slice none 0 0] 34 (0, 0)) (by (with_reducible repeat (first | refine qag ?_ _ | refine qaj ?_ | refine qaf ?_ _)); exact BK357.out)) : gb358 ≠ gb357)); clear HO348; clear HO353; clear HO356; clear BK357; clear HB; have HO348 := n0_; have HO353 := n1_; have HO356 := n2_; have BK357 := n3_; have HB := n4_; have BK358 := n5_; have GW358 := n6_; have GE358 := n7_; have NB357_358 := n8_; have NB358_357 := n9_; clear n0_ n1_ n2_ n3_ n4_ n5_ n6_ n7_ n8_ n9_; clear hb hbox hg; have hnb16 := NB357_358.out; have hnc16 := NB358_357.out; have hcz17_0 : w15.cell? ⟨gb357, 0, none⟩ = some (.int .i64 0) := (qai BK357.out 0).trans rfl; have hcz17_1 : w15.cell? ⟨gb357, 1, none⟩ = some (.int .i64 0) := (qai BK357.out 1).trans rfl; have hcz17_2 : w15.cell? ⟨gb357, 2, none⟩ = some (.slice none 0 0) := (qai BK357.out 2).trans rfl; have hfz17_0 := qah BK357.out 0; have hfz17_1 := qah BK357.out 1; have hfz17_2 := qah BK357.out 2; obtain ⟨Ao18, co18, eo18⟩ := Kd.qbj HO353.out; subst eo18; obtain ⟨Ao19, co19, eo19⟩ := Kd.qbj HO356.out; subst eo19; have hcz20_0 : w15.cell? ⟨gb358, 0, none⟩ = some (.slice none 0 0) := (qai BK358.out 0).trans rfl; have hfz20_0 := qah BK358.out 0) | (go_at_call 32; (with_reducible refine (impl_DependsOf.calls k t349 t350 _ _ t351 _ _ t354 t359 _ ?side1 ?side2 ?side3 ?side4 A6.out).mono ?_); (case side1 => refine (Kd.qau (e := 3) (base := w.heap.size) (ok := fun k_ => some k_ ≠ (.slice Ao19 t354.length co19 : Value).ownBlock) (n := t351.length) (c := co18) ?_).2.2; exact (by (with_reducible repeat (first | apply Kd.qao | apply Kd.qan | apply Kd.qap)); exact (Kd.qbb (Kd.qbb (Kd.R_far (p := ⟨gb358, 0, none⟩) (Kd.R_far (p := ⟨gb357, 2, none⟩) (Kd.R_far (p := ⟨gb357, 1, none⟩) (Kd.R_far (p := ⟨gb357, 0, none⟩) (Kd.qbg (Kd.qbg HO353.out BK357.out (by decide)) BK358.out (by decide)) (fun _ hk => by first | exact hk.1.2 | (simp_all; done) | grind) (.int .i64 t349)) (fun _ hk => by first | exact hk.1.2 | (simp_all; done) | grind) (.int .i64 t350)) (fun _ hk => by first | exact hk.1.2 | (simp_all; done) | grind) (.slice Ao18 t351.length co18)) (fun _ hk => by first | exact hk.2 | (simp_all; done) | grind) (.slice Ao19 t354.length co19)) (fun _ h_ => h_.1)) (fun _ h_ => h_.1)))); (case side2 => exact (Kd.qau HO353.out).2.1); (case side3 => refine (Kd.qau (e := 3) (base := w.heap.size) (ok := fun k_ => some k_ ≠ (.slice Ao18 t351.length co18 : Value).ownBlock) (n := t354.length) (c := co19) ?_).2.2; exact (by (with_reducible repeat (first | apply Kd.qao | apply Kd.qan | apply Kd.qap)); exact (Kd.qbb (Kd.qbb (Kd.R_far (p := ⟨gb358, 0, none⟩) (Kd.R_far (p := ⟨gb357, 2, none⟩) (Kd.R_far (p := ⟨gb357, 1, none⟩) (Kd.R_far (p := ⟨gb357, 0, none⟩) (Kd.qbg (Kd.qbg HO356.out BK357.out (by decide)) BK358.out (by decide)) (fun _ hk => by first | exact hk.1.2 | (simp_all; done) | grind) (.int .i64 t349)) (fun _ hk => by first | exact hk.1.2 | (simp_all; done) | grind) (.int .i64 t350)) (fun _ hk => by first | exact hk.1.2 | (simp_all; done) | grind) (.slice Ao18 t351.length co18)) (fun _ hk => by first | exact hk.2 | (simp_all; done) | grind) (.slice Ao19 t354.length co19)) (fun _ h_ => h_.1)) (fun _ h_ => h_.1)))); (case side4 => exact (Kd.qau HO356.out).2.1); rintro e w21 ⟨v360, rfl, ho0, hb⟩; have n0_ := qab.mk (Kd.qbc (by (with_reducible repeat (first | apply Kd.qao | apply Kd.qan | apply Kd.qap)); exact (Kd.qbb (Kd.qbb (Kd.R_far (p := ⟨gb358, 0, none⟩) (Kd.R_far (p := ⟨gb357, 2, none⟩) (Kd.R_far (p := ⟨gb357, 1, none⟩) (Kd.R_far (p := ⟨gb357, 0, none⟩) (Kd.qbg (Kd.qbg HO348.out BK357.out (by decide)) BK358.out (by decide)) (fun _ hk => by first | exact hk.1.2 | (simp_all; done) | grind) (.int .i64 t349)) (fun _ hk => by first | exact hk.1.2 | (simp_all; done) | grind) (.int .i64 t350)) (fun _ hk => by first | exact hk.1.2 | (simp_all; done) | grind) (.slice Ao18 t351.length co18)) (fun _ hk => by first | exact hk.2 | (simp_all; done) | grind) (.slice Ao19 t354.length co19)) (fun _ h_ => h_.1)) (fun _ h_ => h_.1))) (Kd.qbl ho0) hb); have n1_ := qab.mk (Kd.qav (by (with_reducible repeat (first | apply Kd.qao | apply Kd.qan | apply Kd.qap)); exact (Kd.qbb (Kd.qbb (Kd.R_far (p := ⟨gb358, 0, none⟩) (Kd.R_far (p := ⟨gb357, 2, none⟩) (Kd.R_far (p := ⟨gb357, 1, none⟩) (Kd.R_far (p := ⟨gb357, 0, none⟩) (Kd.qbg (Kd.qbg HO353.out BK357.out (by decide)) BK358.out (by decide)) (fun _ hk => by first | exact hk.1.2 | (simp_all; done) | grind) (.int .i64 t349)) (fun _ hk => by first | exact hk.1.2 | (simp_all; done) | grind) (.int .i64 t350)) (fun _ hk => by first | exact hk.1.2 | (simp_all; done) | grind) (.slice Ao18 t351.length co18)) (fun _ hk => by first | exact hk.2 | (simp_all; done) | grind) (.slice Ao19 t354.length co19)) (fun _ h_ => h_.1)) (fun _ h_ => h_.1))) hb); have n2_ := qab.mk (Kd.qav (by (with_reducible repeat (first | apply Kd.qao | apply Kd.qan | apply Kd.qap)); exact (Kd.qbb (Kd.qbb (Kd.R_far (p := ⟨gb358, 0, none⟩) (Kd.R_far (p := ⟨gb357, 2, none⟩) (Kd.R_far (p := ⟨gb357, 1, none⟩) (Kd.R_far (p := ⟨gb357, 0, none⟩) (Kd.qbg (Kd.qbg HO356.out BK357.out (by decide)) BK358.out (by decide)) (fun _ hk => by first | exact hk.1.2 | (simp_all; done) | grind) (.int .i64 t349)) (fun _ hk => by first | exact hk.1.2 | (simp_all; done) | grind) (.int .i64 t350)) (fun _ hk => by first | exact hk.1.2 | (simp_all; done) | grind) (.slice Ao18 t351.length co18)) (fun _ hk => by first | exact hk.2 | (simp_all; done) | grind) (.slice Ao19 t354.length co19)) (fun _ h_ => h_.1)) (fun _ h_ => h_.1))) hb); have n3_ := qab.mk (Kd.qbm (Kd.qbn ho0 (Kd.R_lt (by (with_reducible repeat (first | apply Kd.qao | apply Kd.qan | apply Kd.qap)); exact (Kd.qbb (Kd.qbb (Kd.R_far (p := ⟨gb358, 0, none⟩) (Kd.R_far (p := ⟨gb357, 2, none⟩) (Kd.R_far (p := ⟨gb357, 1, none⟩) (Kd.R_far (p := ⟨gb357, 0, none⟩) (Kd.qbg (Kd.qbg HO348.out BK357.out (by decide)) BK358.out (by decide)) (fun _ hk => by first | exact hk.1.2 | (simp_all; done) | grind) (.int .i64 t349)) (fun _ hk => by first | exact hk.1.2 | (simp_all; done) | grind) (.int .i64 t350)) (fun _ hk => by first | exact hk.1.2 | (simp_all; done) | grind) (.slice Ao18 t351.length co18)) (fun _ hk => by first | exact hk.2 | (simp_all; done) | grind) (.slice Ao19 t354.length co19)) (fun _ h_ => h_.1)) (fun _ h_ => h_.1))))) (qal (by repeat (first | (with_reducible first | exact HB.out | apply qad | apply qaa | apply qac | refine qae ?_ GE357.out | refine qae ?_ GE358.out) | exact HB.out)))); have n4_ := qab.mk (qam (g := gb357) (o := .cells #[.int .i64 t349, .int .i64 t350, .slice Ao18 t351.length co18] 34 (0, 0)) (by (with_reducible repeat (first | refine qag ?_ _ | refine qaj ?_ | refine qaf ?_ _)); refine qbq ?_ NB357_358.out _; (with_reducible repeat (first | refine qag ?_ _ | refine qaj ?_ | refine qaf ?_ _)); refine qbi (cs := #[.int .i64 t349, .int .i64 t350, .slice none 0 0]) ?_ 2 _ rfl; (with_reducible repeat (first | refine qag ?_ _ | refine qaj ?_ | refine qaf ?_ _)); refine qbi (cs := #[.int .i64 t349, .int .i64 0, .slice none 0 0]) ?_ 1 _ rfl; (with_reducible repeat (first | refine qag ?_ _ | refine qaj ?_ | refine qaf ?_ _)); refine qbi (cs := #[.int .i64 0, .int .i64 0, .slice none 0 0]) ?_ 0 _ rfl; (with_reducible repeat (first | refine qag ?_ _ | refine qaj ?_ | refine qaf ?_ _)); exact BK357.out) hb); have n5_ := qab.mk (qam (g := gb358) (o := .cells #[.slice Ao19 t354.length co19] 36 (0, 0)) (by (with_reducible repeat (first | refine qag ?_ _ | refine qaj ?_ | refine qaf ?_ _)); refine qbi (cs := #[.slice none 0 0]) ?_ 0 _ rfl; (with_reducible repeat (first | refine qag ?_ _ | refine qaj ?_ | refine qaf ?_ _)); refine qbq ?_ NB358_357.out _; (with_reducible repeat (first | refine qag ?_ _ | refine qaj ?_ | refine qaf ?_ _)); refine qbq ?_ NB358_357.out _; (with_reducible repeat (first | refine qag ?_ _ | refine qaj ?_ | refine qaf ?_ _)); refine qbq ?_ NB358_357.out _; (with_reducible repeat (first | refine qag ?_ _ | refine qaj ?_ | refine qaf ?_ _)); exact BK358.out) hb); have n6_ := qab.mk (qak (by repeat (first | (with_reducible first | exact HB.out | apply qad | apply qaa | apply qac | refine qae ?_ GE357.out | refine qae ?_ GE358.out) | exact HB.out)) hb); clear HO348; clear HO353; clear HO356; clear BK357; clear BK358; clear HB; have HO348 := n0_; have HO353 := n1_; have HO356 := n2_; have HO361 := n3_; have BK357 := n4_; have BK358 := n5_; have HB := n6_; clear n0_ n1_ n2_ n3_ n4_ n5_ n6_; (try clear hb); (try clear hb2); (try clear hk); (try clear hi); (try clear ho0); obtain ⟨Ao22, co22, eo22⟩ := Kd.qbj HO348.out; subst eo22; obtain ⟨Ao23, co23, eo23⟩ := Kd.qbj HO361.out; subst eo23) | (go_at_call 61; (with_reducible refine (impl_MergeDepends.calls k _ _ t346 _ _ t359 t362 _ ?side1 ?side2 ?side3 ?side4 A7.out).mono ?_); (case side1 => repeat (first | exact (Kd.qau HO348.out).2.2 | (with_reducible first | refine Kd.qaz ?_ _ | refine Kd.qay ?_ _ | refine Kd.qbd ?_))); (case side2 => exact (Kd.qau HO348.out).2.1); (case side3 => repeat (first | exact (Kd.qau HO361.out).2.2 | (with_reducible first | refine Kd.qaz ?_ _ | refine Kd.qay ?_ _ | refine Kd.qbd ?_))); (case side4 => exact (Kd.qau HO361.out).2.1); rintro e w24 ⟨v363, rfl, ho0, hb⟩; have n0_ := qab.mk (Kd.qbc (by (with_reducible repeat (first | apply Kd.qao | apply Kd.qan | apply Kd.qap)); exact HO348.out) (Kd.qbl ho0) hb); have n1_ := qab.mk (Kd.qav (by (with_reducible repeat (first | apply Kd.qao | apply Kd.qan | apply Kd.qap)); exact HO353.out) hb); have n2_ := qab.mk (Kd.qav (by (with_reducible repeat (first | apply Kd.qao | apply Kd.qan | apply Kd.qap)); exact HO356.out) hb); have n3_ := qab.mk (Kd.qbc (by (with_reducible repeat (first | apply Kd.qao | apply Kd.qan | apply Kd.qap)); exact HO361.out) (Kd.qbl ho0) hb); have n4_ := qab.mk (Kd.qbm (Kd.qbn (Kd.qbn ho0 (Kd.R_lt (by (with_reducible repeat (first | apply Kd.qao | apply Kd.qan | apply Kd.qap)); exact HO348.out))) (Kd.R_lt (by (with_reducible repeat (first | apply Kd.qao | apply Kd.qan | apply Kd.qap)); exact HO361.out))) (qal (by repeat (first | (with_reducible first | exact HB.out | apply qad | apply qaa | apply qac | refine qae ?_ GE357.out | refine qae ?_ GE358.out) | exact HB.out)))); have n5_ := qab.mk (qam (g := gb357) (o := .cells #[.int .i64 t349, .int .i64 t350, .slice Ao18 t351.length co18] 34 (0, 0)) (by (with_reducible repeat (first | refine qag ?_ _ | refine qaj ?_ | refine qaf ?_ _)); exact BK357.out) hb); have n6_ := qab.mk (qam (g := gb358) (o := .cells #[.slice Ao19 t354.length co19] 36 (0, 0)) (by (with_reducible repeat (first | refine qag ?_ _ | refine qaj ?_ | refine qaf ?_ _)); exact BK358.out) hb); have n7_ := qab.mk (qak (by repeat (first | (with_reducible first | exact HB.out | apply qad | apply qaa | apply qac | refine qae ?_ GE357.out | refine qae ?_ GE358.out) | exact HB.out)) hb); clear HO348; clear HO353; clear HO356; clear HO361; clear BK357; clear BK358; clear HB; have HO348 := n0_; have HO353 := n1_; have HO356 := n2_; have HO361 := n3_; have HO364 := n4_; have BK357 := n5_; have BK358 := n6_; have HB := n7_; clear n0_ n1_ n2_ n3_ n4_ n5_ n6_ n7_; (try clear hb); (try clear hb2); (try clear hk); (try clear hi); (try clear ho0)) | (go_at_call 61; (with_reducible refine (impl_MergeDepends.calls k _ _ t359 _ _ t346 t365 _ ?side1 ?side2 ?side3 ?side4 A8.out).mono ?_); (case side1 => repeat (first | exact (Kd.qau HO361.out).2.2 | (with_reducible first | refine Kd.qaz ?_ _ | refine Kd.qay ?_ _ | refine Kd.qbd ?_))); (case side2 => exact (Kd.qau HO361.out).2.1); (case side3 => repeat (first | exact (Kd.qau HO348.out).2.2 | (with_reducible first | refine Kd.qaz ?_ _ | refine Kd.qay ?_ _ | refine Kd.qbd ?_))); (case side4 => exact (Kd.qau HO348.out).2.1); rintro e w25 ⟨v366, rfl, ho0, hb⟩; have n0_ := qab.mk (Kd.qbc (by (with_reducible repeat (first | apply Kd.qao | apply Kd.qan | apply Kd.qap)); exact HO348.out) (Kd.qbl ho0) hb); have n1_ := qab.mk (Kd.qav (by (with_reducible repeat (first | apply Kd.qao | apply Kd.qan | apply Kd.qap)); exact HO353.out) hb); have n2_ := qab.mk (Kd.qav (by (with_reducible repeat (first | apply Kd.qao | apply Kd.qan | apply Kd.qap)); exact HO356.out) hb); have n3_ := qab.mk (Kd.qbc (by (with_reducible repeat (first | apply Kd.qao | apply Kd.qan | apply Kd.qap)); exact HO361.out) (Kd.qbl ho0) hb); have n4_ := qab.mk (Kd.qbc (by (with_reducible repeat (first | apply Kd.qao | apply Kd.qan | apply Kd.qap)); exact HO364.out) (Kd.qbl ho0) hb); have n5_ := qab.mk (Kd.qbm (Kd.qbn (Kd.qbn (Kd.qbn ho0 (Kd.R_lt (by (with_reducible repeat (first | apply Kd.qao | apply Kd.qan | apply Kd.qap)); exact HO348.out))) (Kd.R_lt (by (with_reducible repeat (first | apply Kd.qao | apply Kd.qan | apply Kd.qap)); exact HO361.out))) (Kd.R_lt (by (with_reducible repeat (first | apply Kd.qao | apply Kd.qan | apply Kd.qap)); exact HO364.out))) (qal (by repeat (first | (with_reducible first | exact HB.out | apply qad | apply qaa | apply qac | refine qae ?_ GE357.out | refine qae ?_ GE358.out) | exact HB.out)))); have n6_ := qab.mk (qam (g := gb357) (o := .cells #[.int .i64 t349, .int .i64 t350, .slice Ao18 t351.length co18] 34 (0, 0)) (by (with_reducible repeat (first | refine qag ?_ _ | refine qaj ?_ | refine qaf ?_ _)); exact BK357.out) hb); have n7_ := qab.mk (qam (g := gb358) (o := .cells #[.slice Ao19 t354.length co19] 36 (0, 0)) (by (with_reducible repeat (first | refine qag ?_ _ | refine qaj ?_ | refine qaf ?_ _)); exact BK358.out) hb); have n8_ := qab.mk (qak (by repeat (first | (with_reducible first | exact HB.out | apply qad | apply qaa | apply qac | refine qae ?_ GE357.out | refine qae ?_ GE358.out) | exact HB.out)) hb); clear HO348; clear HO353; clear HO356; clear HO361; clear HO364; clear BK357; clear BK358; clear HB; have HO348 := n0_; have HO353 := n1_; have HO356 := n2_; have HO361 := n3_; have HO364 := n4_; have HO367 := n5_; have BK357 := n6_; have BK358 := n7_; have HB := n8_; clear n0_ n1_ n2_ n3_ n4_ n5_ n6_ n7_ n8_; (try clear hb); (try clear hb2); (try clear hk); (try clear hi); (try clear ho0)) | (go_at_call 70; (with_reducible refine (impl_ShiftDepends.calls k _ _ t346 64 t368 _ ?side1 ?side2 A9.out).mono ?_); (case side1 => repeat (first | exact (Kd.qau HO348.out).2.2 | (with_reducible first | refine Kd.qaz ?_ _ | refine Kd.qay ?_ _ | refine Kd.qbd ?_))); (case side2 => exact (Kd.qau HO348.out).2.1); rintro e w26 ⟨v369, rfl, ho0, hb⟩; have n0_ := qab.mk (Kd.qbc (by (with_reducible repeat (first | apply Kd.qao | apply Kd.qan | apply Kd.qap)); exact HO348.out) (Kd.qbl ho0) hb); have n1_ := qab.mk (Kd.qav (by (with_reducible repeat (first | apply Kd.qao | apply Kd.qan | apply Kd.qap)); exact HO353.out) hb); have n2_ := qab.mk (Kd.qav (by (with_reducible repeat (first | apply Kd.qao | apply Kd.qan | apply Kd.qap)); exact HO356.out) hb); have n3_ := qab.mk (Kd.qbc (by (with_reducible repeat (first | apply Kd.qao | apply Kd.qan | apply Kd.qap)); exact HO361.out) (Kd.qbl ho0) hb); have n4_ := qab.mk (Kd.qbc (by (with_reducible repeat (first | apply Kd.qao | apply Kd.qan | apply Kd.qap)); exact HO364.out) (Kd.qbl ho0) hb); have n5_ := qab.mk (Kd.qbc (by (with_reducible repeat (first | apply Kd.qao | apply Kd.qan | apply Kd.qap)); exact HO367.out) (Kd.qbl ho0) hb); have n6_ := qab.mk (Kd.qbm (Kd.qbn (Kd.qbn (Kd.qbn (Kd.qbn ho0 (Kd.R_lt (by (with_reducible repeat (first | apply Kd.qao | apply Kd.qan | apply Kd.qap)); exact HO348.out))) (Kd.R_lt (by (with_reducible repeat (first | apply Kd.qao | apply Kd.qan | apply Kd.qap)); exact HO361.out))) (Kd.R_lt (by (with_reducible repeat (first | apply Kd.qao | apply Kd.qan | apply Kd.qap)); exact HO364.out))) (Kd.R_lt (by (with_reducible repeat (first | apply Kd.qao | apply Kd.qan | apply Kd.qap)); exact HO367.out))) (qal (by repeat (first | (with_reducible first | exact HB.out | apply qad | apply qaa | apply qac | refine qae ?_ GE357.out | refine qae ?_ GE358.out) | exact HB.out)))); have n7_ := qab.mk (qam (g := gb357) (o := .cells #[.int .i64 t349, .int .i64 t350, .slice Ao18 t351.length co18] 34 (0, 0)) (by (with_reducible repeat (first | refine qag ?_ _ | refine qaj ?_ | refine qaf ?_ _)); exact BK357.out) hb); have n8_ := qab.mk (qam (g := gb358) (o := .cells #[.slice Ao19 t354.length co19] 36 (0, 0)) (by (with_reducible repeat (first | refine qag ?_ _ | refine qaj ?_ | refine qaf ?_ _)); exact BK358.out) hb); have n9_ := qab.mk (qak (by repeat (first | (with_reducible first | exact HB.out | apply qad | apply qaa | apply qac | refine qae ?_ GE357.out | refine qae ?_ GE358.out) | exact HB.out)) hb); clear HO348; clear HO353; clear HO356; clear HO361; clear HO364; clear HO367; clear BK357; clear BK358; clear HB; have HO348 := n0_; have HO353 := n1_; have HO356 := n2_; have HO361 := n3_; have HO364 := n4_; have HO367 := n5_; have HO370 := n6_; have BK357 := n7_; have BK358 := n8_; have HB := n9_; clear n0_ n1_ n2_ n3_ n4_ n5_ n6_ n7_ n8_ n9_; (try clear hb); (try clear hb2); (try clear hk); (try clear hi); (try clear ho0); obtain ⟨Ao27, co27, eo27⟩ := Kd.qbj HO370.out; subst eo27) | (go_at_call 70; (with_reducible refine (impl_ShiftDepends.calls k _ _ t368 (-64) t371 _ ?side1 ?side2 A10.out).mono ?_); (case side1 => repeat (first | exact (Kd.qau HO370.out).2.2 | (with_reducible first | refine Kd.qaz ?_ _ | refine Kd.qay ?_ _ | refine Kd.qbd ?_))); (case side2 => exact (Kd.qau HO370.out).2.1); rintro e w28 ⟨v372, rfl, ho0, hb⟩; have n0_ := qab.mk (Kd.qbc (by (with_reducible repeat (first | apply Kd.qao | apply Kd.qan | apply Kd.qap)); exact HO348.out) (Kd.qbl ho0) hb); have n1_ := qab.mk (Kd.qav (by (with_reducible repeat (first | apply Kd.qao | apply Kd.qan | apply Kd.qap)); exact HO353.out) hb); have n2_ := qab.mk (Kd.qav (by (with_reducible repeat (first | apply Kd.qao | apply Kd.qan | apply Kd.qap)); exact HO356.out) hb); have n3_ := qab.mk (Kd.qbc (by (with_reducible repeat (first | apply Kd.qao | apply Kd.qan | apply Kd.qap)); exact HO361.out) (Kd.qbl ho0) hb); have n4_ := qab.mk (Kd.qbc (by (with_reducible repeat (first | apply Kd.qao | apply Kd.qan | apply Kd.qap)); exact HO364.out) (Kd.qbl ho0) hb); have n5_ := qab.mk (Kd.qbc (by (with_reducible repeat (first | apply Kd.qao | apply Kd.qan | apply Kd.qap)); exact HO367.out) (Kd.qbl ho0) hb); have n6_ := qab.mk (Kd.qbc (by (with_reducible repeat (first | apply Kd.qao | apply Kd.qan | apply Kd.qap)); exact HO370.out) (Kd.qbl ho0) hb); have n7_ := qab.mk (Kd.qbm (Kd.qbn (Kd.qbn (Kd.qbn (Kd.qbn (Kd.qbn ho0 (Kd.R_lt (by (with_reducible repeat (first | apply Kd.qao | apply Kd.qan | apply Kd.qap)); exact HO348.out))) (Kd.R_lt (by (with_reducible repeat (first | apply Kd.qao | apply Kd.qan | apply Kd.qap)); exact HO361.out))) (Kd.R_lt (by (with_reducible repeat (first | apply Kd.qao | apply Kd.qan | apply Kd.qap)); exact HO364.out))) (Kd.R_lt (by (with_reducible repeat (first | apply Kd.qao | apply Kd.qan | apply Kd.qap)); exact HO367.out))) (Kd.R_lt (by (with_reducible repeat (first | apply Kd.qao | apply Kd.qan | apply Kd.qap)); exact HO370.out))) (qal (by repeat (first | (with_reducible first | exact HB.out | apply qad | apply qaa | apply qac | refine qae ?_ GE357.out | refine qae ?_ GE358.out) | exact HB.out)))); have n8_ := qab.mk (qam (g := gb357) (o := .cells #[.int .i64 t349, .int .i64 t350, .slice Ao18 t351.length co18] 34 (0, 0)) (by (with_reducible repeat (first | refine qag ?_ _ | refine qaj ?_ | refine qaf ?_ _)); exact BK357.out) hb); have n9_ := qab.mk (qam (g := gb358) (o := .cells #[.slice Ao19 t354.length co19] 36 (0, 0)) (by (with_reducible repeat (first | refine qag ?_ _ | refine qaj ?_ | refine qaf ?_ _)); exact BK358.out) hb); have n10_ := qab.mk (qak (by repeat (first | (with_reducible first | exact HB.out | apply qad | apply qaa | apply qac | refine qae ?_ GE357.out | refine qae ?_ GE358.out) | exact HB.out)) hb); clear HO348; clear HO353; clear HO356; clear HO361; clear HO364; clear HO367; clear HO370; clear BK357; clear BK358; clear HB; have HO348 := n0_; have HO353 := n1_; have HO356 := n2_; have HO361 := n3_; have HO364 := n4_; have HO367 := n5_; have HO370 := n6_; have HO373 := n7_; have BK357 := n8_; have BK358 := n9_; have HB := n10_; clear n0_ n1_ n2_ n3_ n4_ n5_ n6_ n7_ n8_ n9_ n10_; (try clear hb); (try clear hb2); (try clear hk); (try clear hi); (try clear ho0))))
  (try simp only [Act.put, List.setIfInBounds_toArray, List.set_cons_zero, List.set_cons_succ])
  go_cut [53] (fun v53 wc => ∃ (kq : Nat) (x53_10 : Bool), v53 = .bool x53_10 ∧ qab (laws_FnMerged.j0 kq t346 t359 t362 t365 t368 t371 x53_10 = some r) ∧ qab (kq ≤ k) ∧ qab (Kd.R k83 83 wc w.heap.size (fun k_ => some k_ ≠ ((.slice Ao23 t359.length co23) : Value).ownBlock ∧ some k_ ≠ (v363 : Value).ownBlock ∧ some k_ ≠ (v366 : Value).ownBlock ∧ some k_ ≠ ((.slice Ao27 t368.length co27) : Value).ownBlock ∧ some k_ ≠ (v372 : Value).ownBlock) (.slice Ao22 t346.length co22) t346) ∧ qab (Kd.R k83 83 wc w.heap.size (fun k_ => some k_ ≠ ((.slice Ao22 t346.length co22) : Value).ownBlock ∧ some k_ ≠ (v363 : Value).ownBlock ∧ some k_ ≠ (v366 : Value).ownBlock ∧ some k_ ≠ ((.slice Ao27 t368.length co27) : Value).ownBlock ∧ some k_ ≠ (v372 : Value).ownBlock) (.slice Ao23 t359.length co23) t359) ∧ qab (Kd.R k83 83 wc w.heap.size (fun k_ => some k_ ≠ ((.slice Ao22 t346.length co22) : Value).ownBlock ∧ some k_ ≠ ((.slice Ao23 t359.length co23) : Value).ownBlock ∧ some k_ ≠ (v366 : Value).ownBlock ∧ some k_ ≠ ((.slice Ao27 t368.length co27) : Value).ownBlock ∧ some k_ ≠ (v372 : Value).ownBlock) v363 t362) ∧ qab (Kd.R k83 83 wc w.heap.size (fun k_ => some k_ ≠ ((.slice Ao22 t346.length co22) : Value).ownBlock ∧ some k_ ≠ ((.slice Ao23 t359.length co23) : Value).ownBlock ∧ some k_ ≠ (v363 : Value).ownBlock ∧ some k_ ≠ ((.slice Ao27 t368.length co27) : Value).ownBlock ∧ some k_ ≠ (v372 : Value).ownBlock) v366 t365) ∧ qab (Kd.R k83 83 wc w.heap.size (fun k_ => some k_ ≠ ((.slice Ao22 t346.length co22) : Value).ownBlock ∧ some k_ ≠ ((.slice Ao23 t359.length co23) : Value).ownBlock ∧ some k_ ≠ (v363 : Value).ownBlock ∧ some k_ ≠ (v366 : Value).ownBlock ∧ some k_ ≠ (v372 : Value).ownBlock) (.slice Ao27 t368.length co27) t368) ∧ qab (Kd.R k83 83 wc w.heap.size (fun k_ => some k_ ≠ ((.slice Ao22 t346.length co22) : Value).ownBlock ∧ some k_ ≠ ((.slice Ao23 t359.length co23) : Value).ownBlock ∧ some k_ ≠ (v363 : Value).ownBlock ∧ some k_ ≠ (v366 : Value).ownBlock ∧ some k_ ≠ ((.slice Ao27 t368.length co27) : Value).ownBlock) v372 t371) ∧ qab (Kd.R (Kd.int .i64) 3 wc w.heap.size (fun k_ => some k_ ≠ ((.slice Ao19 t354.length co19) : Value).ownBlock) (.slice Ao18 t351.length co18) t351) ∧ qab (Kd.R (Kd.int .i64) 3 wc w.heap.size (fun k_ => some k_ ≠ ((.slice Ao18 t351.length co18) : Value).ownBlock) (.slice Ao19 t354.length co19) t354) ∧ qab (wc.heap[gb357]? = some (.cells #[.int .i64 t349, .int .i64 t350, (.slice Ao18 t351.length co18)] 34 (0, 0))) ∧ qab (wc.heap[gb358]? = some (.cells #[(.slice Ao19 t354.length co19)] 36 (0, 0))) ∧ qab (Below w.heap.size w wc))
  case first =>
   have H := HC11.out
   clear HC11
   by_cases c29 : (t362.length : Int) = (t365.length : Int)
   ·rw [if_pos c29] at H
    have c29b0 : ((t362.length : Int) == (t365.length : Int)) = true := beq_iff_eq.mpr c29
    have c29b1 : ((t362.length : Int) != (t365.length : Int)) = false := bne_eq_false_iff_eq.mpr c29
    have c29b2 : (t362.length == t365.length) = true := by first | simpa using c29 | (simp at c29 ⊢; omega)
    clear c29
    (first | rw [c29b0] | (simp only [i64_w, i32_w]; rw [c29b0]) | skip)
    by_cases c30 : (t371.length : Int) = (t346.length : Int)
    ·rw [if_pos c30] at H
     have c30b0 : ((t371.length : Int) == (t346.length : Int)) = true := beq_iff_eq.mpr c30
     have c30b1 : ((t371.length : Int) != (t346.length : Int)) = false := bne_eq_false_iff_eq.mpr c30
     have c30b2 : (t371.length == t346.length) = true := by first | simpa using c30 | (simp at c30 ⊢; omega)
     clear c30
     have H' := qab.mk H
     clear H
     obtain ⟨Ao31, co31, eo31⟩ := Kd.qbj HO364.out
     subst eo31
     obtain ⟨Ao32, co32, eo32⟩ := Kd.qbj HO367.out
     subst eo32
     obtain ⟨Ao33, co33, eo33⟩ := Kd.qbj HO373.out
     subst eo33
     go_wp2
     repeat (go_quiet (fail); try go_wp2)
     go_meet
     case rel => exact ⟨_, (((t368.length : Int) != (t346.length : Int))), (by first | rfl | (simp; done) | (simp [*]; done)), H', ⟨by first | omega | exact Nat.le_refl _⟩, ⟨by (with_reducible repeat (first | apply Kd.qao | apply Kd.qan | apply Kd.qap)); exact Kd.qbb HO348.out (fun _ hk => ⟨hk.1.1.1.1.2, ⟨hk.1.1.1.2, ⟨hk.1.1.2, ⟨hk.1.2, hk.2⟩⟩⟩⟩)⟩, ⟨by (with_reducible repeat (first | apply Kd.qao | apply Kd.qan | apply Kd.qap)); exact Kd.qbb HO361.out (fun _ hk => ⟨hk.1.1.1.1.2, ⟨hk.1.1.1.2, ⟨hk.1.1.2, ⟨hk.1.2, hk.2⟩⟩⟩⟩)⟩, ⟨by (with_reducible repeat (first | apply Kd.qao | apply Kd.qan | apply Kd.qap)); exact Kd.qbb HO364.out (fun _ hk => ⟨hk.1.1.1.1.2, ⟨hk.1.1.1.2, ⟨hk.1.1.2, ⟨hk.1.2, hk.2⟩⟩⟩⟩)⟩, ⟨by (with_reducible repeat (first | apply Kd.qao | apply Kd.qan | apply Kd.qap)); exact Kd.qbb HO367.out (fun _ hk => ⟨hk.1.1.1.1.2, ⟨hk.1.1.1.2, ⟨hk.1.1.2, ⟨hk.1.2, hk.2⟩⟩⟩⟩)⟩, ⟨by (with_reducible repeat (first | apply Kd.qao | apply Kd.qan | apply Kd.qap)); exact Kd.qbb HO370.out (fun _ hk => ⟨hk.1.1.1.1.2, ⟨hk.1.1.1.2, ⟨hk.1.1.2, ⟨hk.1.2, hk.2⟩⟩⟩⟩)⟩, ⟨by (with_reducible repeat (first | apply Kd.qao | apply Kd.qan | apply Kd.qap)); exact Kd.qbb HO373.out (fun _ hk => ⟨hk.1.1.1.1.2, ⟨hk.1.1.1.2, ⟨hk.1.1.2, ⟨hk.1.2, hk.2⟩⟩⟩⟩)⟩, ⟨by (with_reducible repeat (first | apply Kd.qao | apply Kd.qan | apply Kd.qap)); exact HO353.out⟩, ⟨by (with_reducible repeat (first | apply Kd.qao | apply Kd.qan | apply Kd.qap)); exact HO356.out⟩, ⟨by (with_reducible repeat (first | refine qag ?_ _ | refine qaj ?_ | refine qaf ?_ _)); exact BK357.out⟩, ⟨by (with_reducible repeat (first | refine qag ?_ _ | refine qaj ?_ | refine qaf ?_ _)); exact BK358.out⟩, ⟨by repeat (first | (with_reducible first | exact HB.out | apply qad | apply qaa | apply qac | refine qae ?_ GE357.out | refine qae ?_ GE358.out) | exact HB.out)⟩⟩
    ·rw [if_neg c30] at H
     have c30b0 : ((t371.length : Int) == (t346.length : Int)) = false := beq_eq_false_iff_ne.mpr c30
     have c30b1 : ((t371.length : Int) != (t346.length : Int)) = true := bne_iff_ne.mpr c30
     have c30b2 : (t371.length == t346.length) = false := by first | simpa using c30 | (simp at c30 ⊢; omega)
     have H' := qab.mk H
     clear H
     obtain ⟨Ao34, co34, eo34⟩ := Kd.qbj HO364.out
     subst eo34
     obtain ⟨Ao35, co35, eo35⟩ := Kd.qbj HO367.out
     subst eo35
     obtain ⟨Ao36, co36, eo36⟩ := Kd.qbj HO373.out
     subst eo36
     go_wp2
     repeat (go_quiet (fail); try go_wp2)
     go_meet
     case rel => exact ⟨_, (true), (by first | rfl | (simp; done) | (simp [*]; done)), H', ⟨by first | omega | exact Nat.le_refl _⟩, ⟨by (with_reducible repeat (first | apply Kd.qao | apply Kd.qan | apply Kd.qap)); exact Kd.qbb HO348.out (fun _ hk => ⟨hk.1.1.1.1.2, ⟨hk.1.1.1.2, ⟨hk.1.1.2, ⟨hk.1.2, hk.2⟩⟩⟩⟩)⟩, ⟨by (with_reducible repeat (first | apply Kd.qao | apply Kd.qan | apply Kd.qap)); exact Kd.qbb HO361.out (fun _ hk => ⟨hk.1.1.1.1.2, ⟨hk.1.1.1.2, ⟨hk.1.1.2, ⟨hk.1.2, hk.2⟩⟩⟩⟩)⟩, ⟨by (with_reducible repeat (first | apply Kd.qao | apply Kd.qan | apply Kd.qap)); exact Kd.qbb HO364.out (fun _ hk => ⟨hk.1.1.1.1.2, ⟨hk.1.1.1.2, ⟨hk.1.1.2, ⟨hk.1.2, hk.2⟩⟩⟩⟩)⟩, ⟨by (with_reducible repeat (first | apply Kd.qao | apply Kd.qan | apply Kd.qap)); exact Kd.qbb HO367.out (fun _ hk => ⟨hk.1.1.1.1.2, ⟨hk.1.1.1.2, ⟨hk.1.1.2, ⟨hk.1.2, hk.2⟩⟩⟩⟩)⟩, ⟨by (with_reducible repeat (first | apply Kd.qao | apply Kd.qan | apply Kd.qap)); exact Kd.qbb HO370.out (fun _ hk => ⟨hk.1.1.1.1.2, ⟨hk.1.1.1.2, ⟨hk.1.1.2, ⟨hk.1.2, hk.2⟩⟩⟩⟩)⟩, ⟨by (with_reducible repeat (first | apply Kd.qao | apply Kd.qan | apply Kd.qap)); exact Kd.qbb HO373.out (fun _ hk => ⟨hk.1.1.1.1.2, ⟨hk.1.1.1.2, ⟨hk.1.1.2, ⟨hk.1.2, hk.2⟩⟩⟩⟩)⟩, ⟨by (with_reducible repeat (first | apply Kd.qao | apply Kd.qan | apply Kd.qap)); exact HO353.out⟩, ⟨by (with_reducible repeat (first | apply Kd.qao | apply Kd.qan | apply Kd.qap)); exact HO356.out⟩, ⟨by (with_reducible repeat (first | refine qag ?_ _ | refine qaj ?_ | refine qaf ?_ _)); exact BK357.out⟩, ⟨by (with_reducible repeat (first | refine qag ?_ _ | refine qaj ?_ | refine qaf ?_ _)); exact BK358.out⟩, ⟨by repeat (first | (with_reducible first | exact HB.out | apply qad | apply qaa | apply qac | refine qae ?_ GE357.out | refine qae ?_ GE358.out) | exact HB.out)⟩⟩
   ·rw [if_neg c29] at H
    have c29b0 : ((t362.length : Int) == (t365.length : Int)) = false := beq_eq_false_iff_ne.mpr c29
    have c29b1 : ((t362.length : Int) != (t365.length : Int)) = true := bne_iff_ne.mpr c29
    have c29b2 : (t362.length == t365.length) = false := by first | simpa using c29 | (simp at c29 ⊢; omega)
    (first | rw [c29b0] | (simp only [i64_w, i32_w]; rw [c29b0]) | skip)
    have H' := qab.mk H
    clear H
    obtain ⟨Ao37, co37, eo37⟩ := Kd.qbj HO364.out
    subst eo37
    obtain ⟨Ao38, co38, eo38⟩ := Kd.qbj HO367.out
    subst eo38
    go_wp2
    repeat (go_quiet (fail); try go_wp2)
    go_meet
    case rel => exact ⟨_, (true), (by first | rfl | (simp; done) | (simp [*]; done)), H', ⟨by first | omega | exact Nat.le_refl _⟩, ⟨by (with_reducible repeat (first | apply Kd.qao | apply Kd.qan | apply Kd.qap)); exact Kd.qbb HO348.out (fun _ hk => ⟨hk.1.1.1.1.2, ⟨hk.1.1.1.2, ⟨hk.1.1.2, ⟨hk.1.2, hk.2⟩⟩⟩⟩)⟩, ⟨by (with_reducible repeat (first | apply Kd.qao | apply Kd.qan | apply Kd.qap)); exact Kd.qbb HO361.out (fun _ hk => ⟨hk.1.1.1.1.2, ⟨hk.1.1.1.2, ⟨hk.1.1.2, ⟨hk.1.2, hk.2⟩⟩⟩⟩)⟩, ⟨by (with_reducible repeat (first | apply Kd.qao | apply Kd.qan | apply Kd.qap)); exact Kd.qbb HO364.out (fun _ hk => ⟨hk.1.1.1.1.2, ⟨hk.1.1.1.2, ⟨hk.1.1.2, ⟨hk.1.2, hk.2⟩⟩⟩⟩)⟩, ⟨by (with_reducible repeat (first | apply Kd.qao | apply Kd.qan | apply Kd.qap)); exact Kd.qbb HO367.out (fun _ hk => ⟨hk.1.1.1.1.2, ⟨hk.1.1.1.2, ⟨hk.1.1.2, ⟨hk.1.2, hk.2⟩⟩⟩⟩)⟩, ⟨by (with_reducible repeat (first | apply Kd.qao | apply Kd.qan | apply Kd.qap)); exact Kd.qbb HO370.out (fun _ hk => ⟨hk.1.1.1.1.2, ⟨hk.1.1.1.2, ⟨hk.1.1.2, ⟨hk.1.2, hk.2⟩⟩⟩⟩)⟩, ⟨by (with_reducible repeat (first | apply Kd.qao | apply Kd.qan | apply Kd.qap)); exact Kd.qbb HO373.out (fun _ hk => ⟨hk.1.1.1.1.2, ⟨hk.1.1.1.2, ⟨hk.1.1.2, ⟨hk.1.2, hk.2⟩⟩⟩⟩)⟩, ⟨by (with_reducible repeat (first | apply Kd.qao | apply Kd.qan | apply Kd.qap)); exact HO353.out⟩, ⟨by (with_reducible repeat (first | apply Kd.qao | apply Kd.qan | apply Kd.qap)); exact HO356.out⟩, ⟨by (with_reducible repeat (first | refine qag ?_ _ | refine qaj ?_ | refine qaf ?_ _)); exact BK357.out⟩, ⟨by (with_reducible repeat (first | refine qag ?_ _ | refine qaj ?_ | refine qaf ?_ _)); exact BK358.out⟩, ⟨by repeat (first | (with_reducible first | exact HB.out | apply qad | apply qaa | apply qac | refine qae ?_ GE357.out | refine qae ?_ GE358.out) | exact HB.out)⟩⟩
  case rest =>
   clear HC11
   try clear c1
   try clear c2
   try clear p2
   try clear c3
   try clear c14
   try clear c16
   try clear c29
   try clear c29b0
   try clear c29b1
   try clear c29b2
   try clear c30
   try clear c30b0
   try clear c30b1
   try clear c30b2
   try clear hcz17_0
   try clear hcz17_1
   try clear hcz17_2
   try clear hcz20_0
   try clear hfz17_0
   try clear hfz17_1
   try clear hfz17_2
   try clear hfz20_0
   obtain ⟨kq, x53_10, rfl, HA, HJ10, HO_3, HO_6, HO_7, HO_8, HO_9, HO_10, HO_358002, HO_359000, BK357, BK358, HB⟩ := hcut
   cases kq with
   | zero => exact absurd HA.out (by simp [laws_FnMerged.j0])
   | succ kj10 =>
    have H := HA.out
    clear HA
    simp only [laws_FnMerged.j0] at H
    by_cases c39 : x53_10 = true
    ·subst c39
     have H1 := H
     rw [if_pos rfl] at H1
     clear H
     have H := H1
     clear H1
     obtain rfl := Option.some.inj H
     exact absurd HRT.out (by simp)
    ·replace c39 := Bool.eq_false_iff.mpr c39
     subst c39
     have H1 := H
     rw [if_neg (show ¬ (false = true) by decide)] at H1
     clear H
     have H := H1
     clear H1
     have H' := qab.mk H
     clear H
     go_wp2
     repeat (go_quiet (fail); try go_wp2)
     go_loopg [11] kj10 (fun kq v11 w' => ∃ (x11_2 : Int), v11 = .int .i64 x11_2 ∧ qab (laws_FnMerged.l0 kq t346 t359 t362 t365 t368 t371 x11_2 = some r) ∧ qab (kq ≤ kj10) ∧ qab (Kd.R k83 83 w' w.heap.size (fun k_ => some k_ ≠ ((.slice Ao23 t359.length co23) : Value).ownBlock ∧ some k_ ≠ (v363 : Value).ownBlock ∧ some k_ ≠ (v366 : Value).ownBlock ∧ some k_ ≠ ((.slice Ao27 t368.length co27) : Value).ownBlock ∧ some k_ ≠ (v372 : Value).ownBlock) (.slice Ao22 t346.length co22) t346) ∧ qab (Kd.R k83 83 w' w.heap.size (fun k_ => some k_ ≠ ((.slice Ao22 t346.length co22) : Value).ownBlock ∧ some k_ ≠ (v363 : Value).ownBlock ∧ some k_ ≠ (v366 : Value).ownBlock ∧ some k_ ≠ ((.slice Ao27 t368.length co27) : Value).ownBlock ∧ some k_ ≠ (v372 : Value).ownBlock) (.slice Ao23 t359.length co23) t359) ∧ qab (Kd.R k83 83 w' w.heap.size (fun k_ => some k_ ≠ ((.slice Ao22 t346.length co22) : Value).ownBlock ∧ some k_ ≠ ((.slice Ao23 t359.length co23) : Value).ownBlock ∧ some k_ ≠ (v366 : Value).ownBlock ∧ some k_ ≠ ((.slice Ao27 t368.length co27) : Value).ownBlock ∧ some k_ ≠ (v372 : Value).ownBlock) v363 t362) ∧ qab (Kd.R k83 83 w' w.heap.size (fun k_ => some k_ ≠ ((.slice Ao22 t346.length co22) : Value).ownBlock ∧ some k_ ≠ ((.slice Ao23 t359.length co23) : Value).ownBlock ∧ some k_ ≠ (v363 : Value).ownBlock ∧ some k_ ≠ ((.slice Ao27 t368.length co27) : Value).ownBlock ∧ some k_ ≠ (v372 : Value).ownBlock) v366 t365) ∧ qab (Kd.R k83 83 w' w.heap.size (fun k_ => some k_ ≠ ((.slice Ao22 t346.length co22) : Value).ownBlock ∧ some k_ ≠ ((.slice Ao23 t359.length co23) : Value).ownBlock ∧ some k_ ≠ (v363 : Value).ownBlock ∧ some k_ ≠ (v366 : Value).ownBlock ∧ some k_ ≠ (v372 : Value).ownBlock) (.slice Ao27 t368.length co27) t368) ∧ qab (Kd.R k83 83 w' w.heap.size (fun k_ => some k_ ≠ ((.slice Ao22 t346.length co22) : Value).ownBlock ∧ some k_ ≠ ((.slice Ao23 t359.length co23) : Value).ownBlock ∧ some k_ ≠ (v363 : Value).ownBlock ∧ some k_ ≠ (v366 : Value).ownBlock ∧ some k_ ≠ ((.slice Ao27 t368.length co27) : Value).ownBlock) v372 t371) ∧ qab (Kd.R (Kd.int .i64) 3 w' w.heap.size (fun k_ => some k_ ≠ ((.slice Ao19 t354.length co19) : Value).ownBlock) (.slice Ao18 t351.length co18) t351) ∧ qab (Kd.R (Kd.int .i64) 3 w' w.heap.size (fun k_ => some k_ ≠ ((.slice Ao18 t351.length co18) : Value).ownBlock) (.slice Ao19 t354.length co19) t354) ∧ qab (w'.heap[gb357]? = some (.cells #[.int .i64 t349, .int .i64 t350, (.slice Ao18 t351.length co18)] 34 (0, 0))) ∧ qab (w'.heap[gb358]? = some (.cells #[(.slice Ao19 t354.length co19)] 36 (0, 0))) ∧ qab (Below w.heap.size w w'))
     case atStart => exact ⟨(0), (by first | rfl | (simp; done) | (simp [*]; done)), H', ⟨Nat.le_refl _⟩, ⟨by (with_reducible repeat (first | apply Kd.qao | apply Kd.qan | apply Kd.qap)); exact HO_3.out⟩, ⟨by (with_reducible repeat (first | apply Kd.qao | apply Kd.qan | apply Kd.qap)); exact HO_6.out⟩, ⟨by (with_reducible repeat (first | apply Kd.qao | apply Kd.qan | apply Kd.qap)); exact HO_7.out⟩, ⟨by (with_reducible repeat (first | apply Kd.qao | apply Kd.qan | apply Kd.qap)); exact HO_8.out⟩, ⟨by (with_reducible repeat (first | apply Kd.qao | apply Kd.qan | apply Kd.qap)); exact HO_9.out⟩, ⟨by (with_reducible repeat (first | apply Kd.qao | apply Kd.qan | apply Kd.qap)); exact HO_10.out⟩, ⟨by (with_reducible repeat (first | apply Kd.qao | apply Kd.qan | apply Kd.qap)); exact HO_358002.out⟩, ⟨by (with_reducible repeat (first | apply Kd.qao | apply Kd.qan | apply Kd.qap)); exact HO_359000.out⟩, ⟨by (with_reducible repeat (first | refine qag ?_ _ | refine qaj ?_ | refine qaf ?_ _)); exact BK357.out⟩, ⟨by (with_reducible repeat (first | refine qag ?_ _ | refine qaj ?_ | refine qaf ?_ _)); exact BK358.out⟩, ⟨by repeat (first | (with_reducible first | exact HB.out | apply qad | apply qaa | apply qac | refine qae ?_ GE357.out | refine qae ?_ GE358.out) | exact HB.out)⟩⟩
     case round =>
      clear H'
      try clear c1
      try clear c2
      try clear p2
      try clear c3
      try clear c14
      try clear c16
      try clear c29
      try clear c29b0
      try clear c29b1
      try clear c29b2
      try clear c30
      try clear c30b0
      try clear c30b1
      try clear c30b2
      try clear c39
      try clear hcz17_0
      try clear hcz17_1
      try clear hcz17_2
      try clear hcz20_0
      try clear hfz17_0
      try clear hfz17_1
      try clear hfz17_2
      try clear hfz20_0
      try clear p2
      obtain ⟨x11_2, rfl, HA, HK2, HO_3, HO_6, HO_7, HO_8, HO_9, HO_10, HO_358002, HO_359000, BK357, BK358, HB⟩ := hrel
      cases gk with
      | zero => exact absurd HA.out (by simp [laws_FnMerged.l0])
      | succ k2 =>
       have H := HA.out
       clear HA
       simp only [laws_FnMerged.l0] at H
       by_cases c40 : x11_2 < (t362.length : Int)
       ·rw [if_pos c40] at H
        have c40b0 : decide (x11_2 < (t362.length : Int)) = true := decide_eq_true c40
        clear c40
        by_cases c41 : 0 ≤ x11_2
        ·rw [if_pos c41] at H
         have c41b0 : decide (0 ≤ x11_2) = true := decide_eq_true c41
         clear c41
         by_cases c42 : x11_2 < (t365.length : Int)
         ·rw [if_pos c42] at H
          have c42b0 : decide (x11_2 < (t365.length : Int)) = true := decide_eq_true c42
          clear c42
          by_cases c43 : (!(((rd_T83 t362 x11_2).f0) == ((rd_T83 t365 x11_2).f0)) || (!(((rd_T83 t362 x11_2).f1) == ((rd_T83 t365 x11_2).f1)))) = true
          ·rw [if_pos c43] at H
           have c43b0 : (!(((rd_T83 t362 x11_2).f0) == ((rd_T83 t365 x11_2).f0)) || (!(((rd_T83 t362 x11_2).f1) == ((rd_T83 t365 x11_2).f1)))) = true := c43
           clear c43
           obtain rfl := Option.some.inj H
           exact absurd HRT.out (by simp)
          ·rw [if_neg c43] at H
           have c43b0 : (!(((rd_T83 t362 x11_2).f0) == ((rd_T83 t365 x11_2).f0)) || (!(((rd_T83 t362 x11_2).f1) == ((rd_T83 t365 x11_2).f1)))) = false := by simpa using c43
           clear c43
           have H' := qab.mk H
           clear H
           obtain ⟨Ao44, co44, eo44⟩ := Kd.qbj HO_7.out
           subst eo44
           have p374 : 0 ≤ (x11_2 : Int) := of_decide_eq_true (by first | (with_reducible assumption) | assumption)
           have q374 : x11_2 < (t362.length : Int) := of_decide_eq_true (by first | (with_reducible assumption) | assumption)
           obtain ⟨ad374, e374, hx374_0, hx374_1⟩ := at_T83 (Kd.qau HO_7.out).2.2 x11_2 p374 q374
           cases e374
           replace p374 := eq_true p374
           replace q374 := eq_true q374
           obtain ⟨Ao45, co45, eo45⟩ := Kd.qbj HO_8.out
           subst eo45
           have p375 : 0 ≤ (x11_2 : Int) := of_decide_eq_true (by first | (with_reducible assumption) | assumption)
           have q375 : x11_2 < (t365.length : Int) := of_decide_eq_true (by first | (with_reducible assumption) | assumption)
           obtain ⟨ad375, e375, hx375_0, hx375_1⟩ := at_T83 (Kd.qau HO_8.out).2.2 x11_2 p375 q375
           cases e375
           replace p375 := eq_true p375
           replace q375 := eq_true q375
           go_wp2
           repeat (go_quiet (fail); try go_wp2)
           go_roundg k2
           case measure => have := HJ10.out; have := HK2.out; omega
           case rel => exact ⟨(wrap64 (x11_2 + 1)), (by first | rfl | (simp; done) | (simp [*]; done)), H', ⟨by have := HJ10.out; have := HK2.out; omega⟩, ⟨by (with_reducible repeat (first | apply Kd.qao | apply Kd.qan | apply Kd.qap)); exact HO_3.out⟩, ⟨by (with_reducible repeat (first | apply Kd.qao | apply Kd.qan | apply Kd.qap)); exact HO_6.out⟩, ⟨by (with_reducible repeat (first | apply Kd.qao | apply Kd.qan | apply Kd.qap)); exact HO_7.out⟩, ⟨by (with_reducible repeat (first | apply Kd.qao | apply Kd.qan | apply Kd.qap)); exact HO_8.out⟩, ⟨by (with_reducible repeat (first | apply Kd.qao | apply Kd.qan | apply Kd.qap)); exact HO_9.out⟩, ⟨by (with_reducible repeat (first | apply Kd.qao | apply Kd.qan | apply Kd.qap)); exact HO_10.out⟩, ⟨by (with_reducible repeat (first | apply Kd.qao | apply Kd.qan | apply Kd.qap)); exact HO_358002.out⟩, ⟨by (with_reducible repeat (first | apply Kd.qao | apply Kd.qan | apply Kd.qap)); exact HO_359000.out⟩, ⟨by (with_reducible repeat (first | refine qag ?_ _ | refine qaj ?_ | refine qaf ?_ _)); exact BK357.out⟩, ⟨by (with_reducible repeat (first | refine qag ?_ _ | refine qaj ?_ | refine qaf ?_ _)); exact BK358.out⟩, ⟨by repeat (first | (with_reducible first | exact HB.out | apply qad | apply qaa | apply qac | refine qae ?_ GE357.out | refine qae ?_ GE358.out) | exact HB.out)⟩⟩
         ·rw [if_neg c42] at H
          exact absurd H (by simp)
        ·rw [if_neg c41] at H
         exact absurd H (by simp)
       ·rw [if_neg c40] at H
        have c40b0 : decide (x11_2 < (t362.length : Int)) = false := decide_eq_false c40
        clear c40
        have H' := qab.mk H
        clear H
        obtain ⟨Ao46, co46, eo46⟩ := Kd.qbj HO_7.out
        subst eo46
        go_wp2
        repeat (go_quiet (fail); try go_wp2)
        go_loopg [12] k2 (fun kq v12 w' => ∃ (x12_3 : Int), v12 = .int .i64 x12_3 ∧ qab (laws_FnMerged.l1 kq t346 t359 t362 t368 t371 x12_3 = some r) ∧ qab (kq ≤ k2) ∧ qab (Kd.R k83 83 w' w.heap.size (fun k_ => some k_ ≠ ((.slice Ao23 t359.length co23) : Value).ownBlock ∧ some k_ ≠ ((.slice Ao46 t362.length co46) : Value).ownBlock ∧ some k_ ≠ ((.slice Ao27 t368.length co27) : Value).ownBlock ∧ some k_ ≠ (v372 : Value).ownBlock) (.slice Ao22 t346.length co22) t346) ∧ qab (Kd.R k83 83 w' w.heap.size (fun k_ => some k_ ≠ ((.slice Ao22 t346.length co22) : Value).ownBlock ∧ some k_ ≠ ((.slice Ao46 t362.length co46) : Value).ownBlock ∧ some k_ ≠ ((.slice Ao27 t368.length co27) : Value).ownBlock ∧ some k_ ≠ (v372 : Value).ownBlock) (.slice Ao23 t359.length co23) t359) ∧ qab (Kd.R k83 83 w' w.heap.size (fun k_ => some k_ ≠ ((.slice Ao22 t346.length co22) : Value).ownBlock ∧ some k_ ≠ ((.slice Ao23 t359.length co23) : Value).ownBlock ∧ some k_ ≠ ((.slice Ao27 t368.length co27) : Value).ownBlock ∧ some k_ ≠ (v372 : Value).ownBlock) (.slice Ao46 t362.length co46) t362) ∧ qab (Kd.R k83 83 w' w.heap.size (fun k_ => some k_ ≠ ((.slice Ao22 t346.length co22) : Value).ownBlock ∧ some k_ ≠ ((.slice Ao23 t359.length co23) : Value).ownBlock ∧ some k_ ≠ ((.slice Ao46 t362.length co46) : Value).ownBlock ∧ some k_ ≠ (v372 : Value).ownBlock) (.slice Ao27 t368.length co27) t368) ∧ qab (Kd.R k83 83 w' w.heap.size (fun k_ => some k_ ≠ ((.slice Ao22 t346.length co22) : Value).ownBlock ∧ some k_ ≠ ((.slice Ao23 t359.length co23) : Value).ownBlock ∧ some k_ ≠ ((.slice Ao46 t362.length co46) : Value).ownBlock ∧ some k_ ≠ ((.slice Ao27 t368.length co27) : Value).ownBlock) v372 t371) ∧ qab (Kd.R (Kd.int .i64) 3 w' w.heap.size (fun k_ => some k_ ≠ ((.slice Ao19 t354.length co19) : Value).ownBlock) (.slice Ao18 t351.length co18) t351) ∧ qab (Kd.R (Kd.int .i64) 3 w' w.heap.size (fun k_ => some k_ ≠ ((.slice Ao18 t351.length co18) : Value).ownBlock) (.slice Ao19 t354.length co19) t354) ∧ qab (w'.heap[gb357]? = some (.cells #[.int .i64 t349, .int .i64 t350, (.slice Ao18 t351.length co18)] 34 (0, 0))) ∧ qab (w'.heap[gb358]? = some (.cells #[(.slice Ao19 t354.length co19)] 36 (0, 0))) ∧ qab (Below w.heap.size w w'))
        case atStart => exact ⟨(0), (by first | rfl | (simp; done) | (simp [*]; done)), H', ⟨Nat.le_refl _⟩, ⟨by (with_reducible repeat (first | apply Kd.qao | apply Kd.qan | apply Kd.qap)); exact Kd.qbb HO_3.out (fun _ hk => ⟨hk.1, ⟨hk.2.1, ⟨hk.2.2.2.1, hk.2.2.2.2⟩⟩⟩)⟩, ⟨by (with_reducible repeat (first | apply Kd.qao | apply Kd.qan | apply Kd.qap)); exact Kd.qbb HO_6.out (fun _ hk => ⟨hk.1, ⟨hk.2.1, ⟨hk.2.2.2.1, hk.2.2.2.2⟩⟩⟩)⟩, ⟨by (with_reducible repeat (first | apply Kd.qao | apply Kd.qan | apply Kd.qap)); exact Kd.qbb HO_7.out (fun _ hk => ⟨hk.1, ⟨hk.2.1, ⟨hk.2.2.2.1, hk.2.2.2.2⟩⟩⟩)⟩, ⟨by (with_reducible repeat (first | apply Kd.qao | apply Kd.qan | apply Kd.qap)); exact Kd.qbb HO_9.out (fun _ hk => ⟨hk.1, ⟨hk.2.1, ⟨hk.2.2.1, hk.2.2.2.2⟩⟩⟩)⟩, ⟨by (with_reducible repeat (first | apply Kd.qao | apply Kd.qan | apply Kd.qap)); exact Kd.qbb HO_10.out (fun _ hk => ⟨hk.1, ⟨hk.2.1, ⟨hk.2.2.1, hk.2.2.2.2⟩⟩⟩)⟩, ⟨by (with_reducible repeat (first | apply Kd.qao | apply Kd.qan | apply Kd.qap)); exact HO_358002.out⟩, ⟨by (with_reducible repeat (first | apply Kd.qao | apply Kd.qan | apply Kd.qap)); exact HO_359000.out⟩, ⟨by (with_reducible repeat (first | refine qag ?_ _ | refine qaj ?_ | refine qaf ?_ _)); exact BK357.out⟩, ⟨by (with_reducible repeat (first | refine qag ?_ _ | refine qaj ?_ | refine qaf ?_ _)); exact BK358.out⟩, ⟨by repeat (first | (with_reducible first | exact HB.out | apply qad | apply qaa | apply qac | refine qae ?_ GE357.out | refine qae ?_ GE358.out) | exact HB.out)⟩⟩
        case round =>
         clear H'
         try clear c1
         try clear c2
         try clear p2
         try clear c3
         try clear p3
         try clear q3
         try clear hx3
         try clear c4
         try clear p6
         try clear c14
         try clear c16
         try clear c29
         try clear c29b0
         try clear c29b1
         try clear c29b2
         try clear c30
         try clear c30b0
         try clear c30b1
         try clear c30b2
         try clear p37
         try clear q37
         try clear hx37
         try clear c39
         try clear c40
         try clear c40b0
         try clear c41
         try clear c41b0
         try clear c42
         try clear c42b0
         try clear c43
         try clear c43b0
         try clear hcz17_0
         try clear hcz17_1
         try clear hcz17_2
         try clear hcz20_0
         try clear hfz17_0
         try clear hfz17_1
         try clear hfz17_2
         try clear hfz20_0
         try clear hx374_0
         try clear hx374_1
         try clear hx375_0
         try clear hx375_1
         try clear p2
         try clear p374
         try clear p375
         try clear q374
         try clear q375
         obtain ⟨x12_3, rfl, HA, HK3, HO_3, HO_6, HO_7, HO_9, HO_10, HO_358002, HO_359000, BK357, BK358, HB⟩ := hrel
         cases gk with
         | zero => exact absurd HA.out (by simp [laws_FnMerged.l1])
         | succ k3 =>
          have H := HA.out
          clear HA
          simp only [laws_FnMerged.l1] at H
          by_cases c47 : x12_3 < (t346.length : Int)
          ·rw [if_pos c47] at H
           have c47b0 : decide (x12_3 < (t346.length : Int)) = true := decide_eq_true c47
           clear c47
           by_cases c48 : 0 ≤ x12_3
           ·rw [if_pos c48] at H
            have c48b0 : decide (0 ≤ x12_3) = true := decide_eq_true c48
            clear c48
            by_cases c49 : x12_3 < (t371.length : Int)
            ·rw [if_pos c49] at H
             have c49b0 : decide (x12_3 < (t371.length : Int)) = true := decide_eq_true c49
             clear c49
             by_cases c50 : (!(((rd_T83 t371 x12_3).f0) == ((rd_T83 t346 x12_3).f0)) || (!(((rd_T83 t371 x12_3).f1) == ((rd_T83 t346 x12_3).f1)))) = true
             ·rw [if_pos c50] at H
              have c50b0 : (!(((rd_T83 t371 x12_3).f0) == ((rd_T83 t346 x12_3).f0)) || (!(((rd_T83 t371 x12_3).f1) == ((rd_T83 t346 x12_3).f1)))) = true := c50
              clear c50
              obtain rfl := Option.some.inj H
              exact absurd HRT.out (by simp)
             ·rw [if_neg c50] at H
              have c50b0 : (!(((rd_T83 t371 x12_3).f0) == ((rd_T83 t346 x12_3).f0)) || (!(((rd_T83 t371 x12_3).f1) == ((rd_T83 t346 x12_3).f1)))) = false := by simpa using c50
              clear c50
              by_cases c51 : x12_3 < (t368.length : Int)
              ·rw [if_pos c51] at H
               have c51b0 : decide (x12_3 < (t368.length : Int)) = true := decide_eq_true c51
               clear c51
               by_cases c52 : ((rd_T83 t368 x12_3).f0) = (wrap64 (((rd_T83 t346 x12_3).f0) + 64))
               ·rw [if_pos c52] at H
                have c52b0 : (((rd_T83 t368 x12_3).f0) == (wrap64 (((rd_T83 t346 x12_3).f0) + 64))) = true := beq_iff_eq.mpr c52
                have c52b1 : (((rd_T83 t368 x12_3).f0) != (wrap64 (((rd_T83 t346 x12_3).f0) + 64))) = false := bne_eq_false_iff_eq.mpr c52
                clear c52
                have H' := qab.mk H
                clear H
                obtain ⟨Ao53, co53, eo53⟩ := Kd.qbj HO_10.out
                subst eo53
                have p376 : 0 ≤ (x12_3 : Int) := of_decide_eq_true (by first | (with_reducible assumption) | assumption)
                have q376 : x12_3 < (t371.length : Int) := of_decide_eq_true (by first | (with_reducible assumption) | assumption)
                obtain ⟨ad376, e376, hx376_0, hx376_1⟩ := at_T83 (Kd.qau HO_10.out).2.2 x12_3 p376 q376
                cases e376
                replace p376 := eq_true p376
                replace q376 := eq_true q376
                have p377 : 0 ≤ (x12_3 : Int) := of_decide_eq_true (by first | (with_reducible assumption) | assumption)
                have q377 : x12_3 < (t346.length : Int) := of_decide_eq_true (by first | (with_reducible assumption) | assumption)
                obtain ⟨ad377, e377, hx377_0, hx377_1⟩ := at_T83 (Kd.qau HO_3.out).2.2 x12_3 p377 q377
                cases e377
                replace p377 := eq_true p377
                replace q377 := eq_true q377
                have p378 : 0 ≤ (x12_3 : Int) := of_decide_eq_true (by first | (with_reducible assumption) | assumption)
                have q378 : x12_3 < (t368.length : Int) := of_decide_eq_true (by first | (with_reducible assumption) | assumption)
                obtain ⟨ad378, e378, hx378_0, hx378_1⟩ := at_T83 (Kd.qau HO_9.out).2.2 x12_3 p378 q378
                cases e378
                replace p378 := eq_true p378
                replace q378 := eq_true q378
                have p379 : 0 ≤ (x12_3 : Int) := of_decide_eq_true (by first | (with_reducible assumption) | assumption)
                have q379 : x12_3 < (t346.length : Int) := of_decide_eq_true (by first | (with_reducible assumption) | assumption)
                obtain ⟨ad379, e379, hx379_0, hx379_1⟩ := at_T83 (Kd.qau HO_3.out).2.2 x12_3 p379 q379
                obtain rfl : ad377 = ad379 := (by injection e379)
                replace p379 := eq_true p379
                replace q379 := eq_true q379
                go_wp2
                repeat (go_quiet (fail); try go_wp2)
                go_roundg k3
                case measure => have := HJ10.out; have := HK2.out; have := HK3.out; omega
                case rel => exact ⟨(wrap64 (x12_3 + 1)), (by first | rfl | (simp; done) | (simp [*]; done)), H', ⟨by have := HJ10.out; have := HK2.out; have := HK3.out; omega⟩, ⟨by (with_reducible repeat (first | apply Kd.qao | apply Kd.qan | apply Kd.qap)); exact HO_3.out⟩, ⟨by (with_reducible repeat (first | apply Kd.qao | apply Kd.qan | apply Kd.qap)); exact HO_6.out⟩, ⟨by (with_reducible repeat (first | apply Kd.qao | apply Kd.qan | apply Kd.qap)); exact HO_7.out⟩, ⟨by (with_reducible repeat (first | apply Kd.qao | apply Kd.qan | apply Kd.qap)); exact HO_9.out⟩, ⟨by (with_reducible repeat (first | apply Kd.qao | apply Kd.qan | apply Kd.qap)); exact HO_10.out⟩, ⟨by (with_reducible repeat (first | apply Kd.qao | apply Kd.qan | apply Kd.qap)); exact HO_358002.out⟩, ⟨by (with_reducible repeat (first | apply Kd.qao | apply Kd.qan | apply Kd.qap)); exact HO_359000.out⟩, ⟨by (with_reducible repeat (first | refine qag ?_ _ | refine qaj ?_ | refine qaf ?_ _)); exact BK357.out⟩, ⟨by (with_reducible repeat (first | refine qag ?_ _ | refine qaj ?_ | refine qaf ?_ _)); exact BK358.out⟩, ⟨by repeat (first | (with_reducible first | exact HB.out | apply qad | apply qaa | apply qac | refine qae ?_ GE357.out | refine qae ?_ GE358.out) | exact HB.out)⟩⟩
               ·rw [if_neg c52] at H
                have c52b0 : (((rd_T83 t368 x12_3).f0) == (wrap64 (((rd_T83 t346 x12_3).f0) + 64))) = false := beq_eq_false_iff_ne.mpr c52
                have c52b1 : (((rd_T83 t368 x12_3).f0) != (wrap64 (((rd_T83 t346 x12_3).f0) + 64))) = true := bne_iff_ne.mpr c52
                obtain rfl := Option.some.inj H
                exact absurd HRT.out (by simp)
              ·rw [if_neg c51] at H
               exact absurd H (by simp)
            ·rw [if_neg c49] at H
             exact absurd H (by simp)
           ·rw [if_neg c48] at H
            exact absurd H (by simp)
          ·rw [if_neg c47] at H
           have c47b0 : decide (x12_3 < (t346.length : Int)) = false := decide_eq_false c47
           clear c47
           replace H := Option.bind_eq_some_iff.mp H
           obtain ⟨t380, A540, H⟩ := H
           try dsimp only at H
           have A54 := qab.mk A540
           clear A540
           by_cases c55 : t380 = true
           ·subst c55
            have H1 := H
            rw [if_pos rfl] at H1
            clear H
            have H := H1
            clear H1
            by_cases c56 : (t362.length : Int) ≥ (t346.length : Int)
            ·rw [if_pos c56] at H
             have c56b0 : decide ((t346.length : Int) ≤ (t362.length : Int)) = true := decide_eq_true c56
             have c56b1 : decide (t346.length ≤ t362.length) = true := decide_eq_true (Int.ofNat_le.mp c56)
             clear c56
             by_cases c57 : (t362.length : Int) ≥ (t359.length : Int)
             ·rw [if_pos c57] at H
              have c57b0 : decide ((t359.length : Int) ≤ (t362.length : Int)) = true := decide_eq_true c57
              have c57b1 : decide (t359.length ≤ t362.length) = true := decide_eq_true (Int.ofNat_le.mp c57)
              clear c57
              obtain rfl := Option.some.inj H
              go_wp2_with (first | (go_at_call 65; (with_reducible refine (impl_DependsOk.calls k3 _ _ t362 true _ ?side1 ?side2 A54.out).mono ?_); (case side1 => repeat (first | exact (Kd.qau HO_7.out).2.2 | (with_reducible first | refine Kd.qaz ?_ _ | refine Kd.qay ?_ _ | refine Kd.qbd ?_))); (case side2 => exact (Kd.qau HO_7.out).2.1); rintro e w58 ⟨rfl, hb⟩; have n0_ := qab.mk (Kd.qav (by (with_reducible repeat (first | apply Kd.qao | apply Kd.qan | apply Kd.qap)); exact HO_3.out) hb); have n1_ := qab.mk (Kd.qav (by (with_reducible repeat (first | apply Kd.qao | apply Kd.qan | apply Kd.qap)); exact HO_6.out) hb); have n2_ := qab.mk (Kd.qav (by (with_reducible repeat (first | apply Kd.qao | apply Kd.qan | apply Kd.qap)); exact HO_7.out) hb); have n3_ := qab.mk (Kd.qav (by (with_reducible repeat (first | apply Kd.qao | apply Kd.qan | apply Kd.qap)); exact HO_9.out) hb); have n4_ := qab.mk (Kd.qav (by (with_reducible repeat (first | apply Kd.qao | apply Kd.qan | apply Kd.qap)); exact HO_10.out) hb); have n5_ := qab.mk (Kd.qav (by (with_reducible repeat (first | apply Kd.qao | apply Kd.qan | apply Kd.qap)); exact HO_358002.out) hb); have n6_ := qab.mk (Kd.qav (by (with_reducible repeat (first | apply Kd.qao | apply Kd.qan | apply Kd.qap)); exact HO_359000.out) hb); have n7_ := qab.mk (qam (g := gb357) (o := .cells #[.int .i64 t349, .int .i64 t350, .slice Ao18 t351.length co18] 34 (0, 0)) (by (with_reducible repeat (first | refine qag ?_ _ | refine qaj ?_ | refine qaf ?_ _)); exact BK357.out) hb); have n8_ := qab.mk (qam (g := gb358) (o := .cells #[.slice Ao19 t354.length co19] 36 (0, 0)) (by (with_reducible repeat (first | refine qag ?_ _ | refine qaj ?_ | refine qaf ?_ _)); exact BK358.out) hb); have n9_ := qab.mk (qak (by repeat (first | (with_reducible first | exact HB.out | apply qad | apply qaa | apply qac | refine qae ?_ GE357.out | refine qae ?_ GE358.out) | exact HB.out)) hb); clear HO_3; clear HO_6; clear HO_7; clear HO_9; clear HO_10; clear HO_358002; clear HO_359000; clear BK357; clear BK358; clear HB; have HO_3 := n0_; have HO_6 := n1_; have HO_7 := n2_; have HO_9 := n3_; have HO_10 := n4_; have HO_358002 := n5_; have HO_359000 := n6_; have BK357 := n7_; have BK358 := n8_; have HB := n9_; clear n0_ n1_ n2_ n3_ n4_ n5_ n6_ n7_ n8_ n9_; (try clear hb); (try clear hb2); (try clear hk); (try clear hi)))
              repeat (go_quiet (first | (go_at_call 65; (with_reducible refine (impl_DependsOk.calls k3 _ _ t362 true _ ?side1 ?side2 A54.out).mono ?_); (case side1 => repeat (first | exact (Kd.qau HO_7.out).2.2 | (with_reducible first | refine Kd.qaz ?_ _ | refine Kd.qay ?_ _ | refine Kd.qbd ?_))); (case side2 => exact (Kd.qau HO_7.out).2.1); rintro e w58 ⟨rfl, hb⟩; have n0_ := qab.mk (Kd.qav (by (with_reducible repeat (first | apply Kd.qao | apply Kd.qan | apply Kd.qap)); exact HO_3.out) hb); have n1_ := qab.mk (Kd.qav (by (with_reducible repeat (first | apply Kd.qao | apply Kd.qan | apply Kd.qap)); exact HO_6.out) hb); have n2_ := qab.mk (Kd.qav (by (with_reducible repeat (first | apply Kd.qao | apply Kd.qan | apply Kd.qap)); exact HO_7.out) hb); have n3_ := qab.mk (Kd.qav (by (with_reducible repeat (first | apply Kd.qao | apply Kd.qan | apply Kd.qap)); exact HO_9.out) hb); have n4_ := qab.mk (Kd.qav (by (with_reducible repeat (first | apply Kd.qao | apply Kd.qan | apply Kd.qap)); exact HO_10.out) hb); have n5_ := qab.mk (Kd.qav (by (with_reducible repeat (first | apply Kd.qao | apply Kd.qan | apply Kd.qap)); exact HO_358002.out) hb); have n6_ := qab.mk (Kd.qav (by (with_reducible repeat (first | apply Kd.qao | apply Kd.qan | apply Kd.qap)); exact HO_359000.out) hb); have n7_ := qab.mk (qam (g := gb357) (o := .cells #[.int .i64 t349, .int .i64 t350, .slice Ao18 t351.length co18] 34 (0, 0)) (by (with_reducible repeat (first | refine qag ?_ _ | refine qaj ?_ | refine qaf ?_ _)); exact BK357.out) hb); have n8_ := qab.mk (qam (g := gb358) (o := .cells #[.slice Ao19 t354.length co19] 36 (0, 0)) (by (with_reducible repeat (first | refine qag ?_ _ | refine qaj ?_ | refine qaf ?_ _)); exact BK358.out) hb); have n9_ := qab.mk (qak (by repeat (first | (with_reducible first | exact HB.out | apply qad | apply qaa | apply qac | refine qae ?_ GE357.out | refine qae ?_ GE358.out) | exact HB.out)) hb); clear HO_3; clear HO_6; clear HO_7; clear HO_9; clear HO_10; clear HO_358002; clear HO_359000; clear BK357; clear BK358; clear HB; have HO_3 := n0_; have HO_6 := n1_; have HO_7 := n2_; have HO_9 := n3_; have HO_10 := n4_; have HO_358002 := n5_; have HO_359000 := n6_; have BK357 := n7_; have BK358 := n8_; have HB := n9_; clear n0_ n1_ n2_ n3_ n4_ n5_ n6_ n7_ n8_ n9_; (try clear hb); (try clear hb2); (try clear hk); (try clear hi))); try go_wp2_with (first | (go_at_call 65; (with_reducible refine (impl_DependsOk.calls k3 _ _ t362 true _ ?side1 ?side2 A54.out).mono ?_); (case side1 => repeat (first | exact (Kd.qau HO_7.out).2.2 | (with_reducible first | refine Kd.qaz ?_ _ | refine Kd.qay ?_ _ | refine Kd.qbd ?_))); (case side2 => exact (Kd.qau HO_7.out).2.1); rintro e w58 ⟨rfl, hb⟩; have n0_ := qab.mk (Kd.qav (by (with_reducible repeat (first | apply Kd.qao | apply Kd.qan | apply Kd.qap)); exact HO_3.out) hb); have n1_ := qab.mk (Kd.qav (by (with_reducible repeat (first | apply Kd.qao | apply Kd.qan | apply Kd.qap)); exact HO_6.out) hb); have n2_ := qab.mk (Kd.qav (by (with_reducible repeat (first | apply Kd.qao | apply Kd.qan | apply Kd.qap)); exact HO_7.out) hb); have n3_ := qab.mk (Kd.qav (by (with_reducible repeat (first | apply Kd.qao | apply Kd.qan | apply Kd.qap)); exact HO_9.out) hb); have n4_ := qab.mk (Kd.qav (by (with_reducible repeat (first | apply Kd.qao | apply Kd.qan | apply Kd.qap)); exact HO_10.out) hb); have n5_ := qab.mk (Kd.qav (by (with_reducible repeat (first | apply Kd.qao | apply Kd.qan | apply Kd.qap)); exact HO_358002.out) hb); have n6_ := qab.mk (Kd.qav (by (with_reducible repeat (first | apply Kd.qao | apply Kd.qan | apply Kd.qap)); exact HO_359000.out) hb); have n7_ := qab.mk (qam (g := gb357) (o := .cells #[.int .i64 t349, .int .i64 t350, .slice Ao18 t351.length co18] 34 (0, 0)) (by (with_reducible repeat (first | refine qag ?_ _ | refine qaj ?_ | refine qaf ?_ _)); exact BK357.out) hb); have n8_ := qab.mk (qam (g := gb358) (o := .cells #[.slice Ao19 t354.length co19] 36 (0, 0)) (by (with_reducible repeat (first | refine qag ?_ _ | refine qaj ?_ | refine qaf ?_ _)); exact BK358.out) hb); have n9_ := qab.mk (qak (by repeat (first | (with_reducible first | exact HB.out | apply qad | apply qaa | apply qac | refine qae ?_ GE357.out | refine qae ?_ GE358.out) | exact HB.out)) hb); clear HO_3; clear HO_6; clear HO_7; clear HO_9; clear HO_10; clear HO_358002; clear HO_359000; clear BK357; clear BK358; clear HB; have HO_3 := n0_; have HO_6 := n1_; have HO_7 := n2_; have HO_9 := n3_; have HO_10 := n4_; have HO_358002 := n5_; have HO_359000 := n6_; have BK357 := n7_; have BK358 := n8_; have HB := n9_; clear n0_ n1_ n2_ n3_ n4_ n5_ n6_ n7_ n8_ n9_; (try clear hb); (try clear hb2); (try clear hk); (try clear hi))))
              go_ret
              exact ⟨by first | rfl | (simp [errW_none, errW_some] <;> rfl) | (simp [*, errW_none, errW_some] <;> rfl), by repeat (first | (with_reducible first | exact HB.out | apply qad | apply qaa | apply qac | refine qae ?_ GE357.out | refine qae ?_ GE358.out) | exact HB.out)⟩
             ·rw [if_neg c57] at H
              have c57b0 : decide ((t359.length : Int) ≤ (t362.length : Int)) = false := decide_eq_false c57
              have c57b1 : decide (t359.length ≤ t362.length) = false := decide_eq_false (fun h => c57 (Int.ofNat_le.mpr h))
              clear c57
              obtain rfl := Option.some.inj H
              exact absurd HRT.out (by simp)
            ·rw [if_neg c56] at H
             have c56b0 : decide ((t346.length : Int) ≤ (t362.length : Int)) = false := decide_eq_false c56
             have c56b1 : decide (t346.length ≤ t362.length) = false := decide_eq_false (fun h => c56 (Int.ofNat_le.mpr h))
             clear c56
             obtain rfl := Option.some.inj H
             exact absurd HRT.out (by simp)
           ·replace c55 := Bool.eq_false_iff.mpr c55
            subst c55
            have H1 := H
            rw [if_neg (show ¬ (false = true) by decide)] at H1
            clear H
            have H := H1
            clear H1
            obtain rfl := Option.some.inj H
            exact absurd HRT.out (by simp)

/-- THE ONE PURE STATEMENT of laws_FnMerged. -/
def laws_FnMerged.Pure : Prop := ∀ (l0 : List Int), l0.length ≤ maxLen → l0.length * 1 ≤ 140737488351232 → (∀ y ∈ l0, (Lit.int .u8 y).wf = true) → ∃ k, laws_FnMerged.f k l0 = some true
theorem laws_FnMerged.walk (P : laws_FnMerged.Pure) (A0 : Option Addr) (c0 : Nat) (l0 : List Int) (w : World) (hr0 : Kd.C (Kd.int .u8) w A0 l0.length l0) (hc0 : l0.length ≤ c0) (hw0 : l0.length ≤ maxLen) (hw1 : l0.length * 1 ≤ 140737488351232) (hw2 : (∀ y ∈ l0, (Lit.int .u8 y).wf = true)) :
  Calls Try.prog 14 #[.slice A0 l0.length c0] w fun e w' => e = .returned (.bool true) ∧ Below w.heap.size w w' := by
 have h := P l0 hw0 hw1 hw2
 obtain ⟨k, h⟩ := h
 refine (laws_FnMerged.calls k A0 c0 l0 true w hr0 hc0 rfl h).mono ?_
 rintro e w' ⟨rfl, hd⟩
 exact ⟨rfl, hd⟩


end Go.Proofs.Ytmfkgnfjjfnfmaa.XV
