/- What is proved: contracts of functions of the program (each: where its Lean function answers, the call returns that answer); written by a program of this session. -/
import Derived.Test.YtohccnaellachacXL0
import Derived.Test.YtohccnaellachacXL1
import Derived.Test.YtohccnaellachacXL3
import Derived.Test.YtohccnaellachacXL4
namespace Go.Proofs.Ytohccnaellachac.XL
open Go.RowKit Go.Proofs.YtohccnaellachacW.PrintWords Go.Proofs.YtohccnaellachacW.PrintLast Go.Proofs.YtohccnaellachacW.PrintMore
attribute [local go_sem] max2_int min2_int max_two min_two max_three min_three max_four min_four   -- for this text's walks alone
set_option linter.unusedVariables false
set_option linter.unusedSimpArgs false

/-! ### impl_TableOk: function 20 (by hand) -/
def impl_TableOk.l0 : Nat → Int → Int → List Int → Option (Bool)
  | 0, _, _, _ => none
  | k + 1, n, i, p => if i < n then (if 0 ≤ (wrap64 ((wrap64 (i * n)) + i)) then (if (wrap64 ((wrap64 (i * n)) + i)) < (p.length : Int) then (if (rd p (wrap64 ((wrap64 (i * n)) + i))) = 4 then (impl_TableOk.l0 k n (wrap64 (i + 1)) p) else (some false)) else (none)) else (none)) else (some true)
def impl_TableOk.wk (k : Nat) (w h : Int) (l p : List Int) : List (Int × Int) → Option (Bool)
  | [] => some true
  | (a, b) :: r => (impl_WalkTable.f k w h l p a b).bind fun x => (if (x.length : Int) > 0 then (impl_TableOk.wk k w h l p r) else (some false))
def impl_TableOk.f (k : Nat) (a0_0 : Int) (a0_1 : Int) (l0_2 : List Int) (l1_0 : List Int) : Option (Bool) := (impl_NodeCount.f a0_0 a0_1).bind fun n => ((impl_MeshOk.f k a0_0 a0_1 l0_2).bind fun m => (if m = true then (if (l1_0.length : Int) = (wrap64 (n * n)) then ((impl_TableOk.l0 k n 0 l1_0).bind fun d => (if d = true then (impl_TableOk.wk k a0_0 a0_1 l0_2 l1_0 (pall n.toNat 0)) else (some false))) else (some false)) else (some false)))
theorem impl_TableOk.mono_l : ∀ k, (∀ y0 y1 y2, LeO (impl_TableOk.l0 k y0 y1 y2) (impl_TableOk.l0 (k + 1) y0 y1 y2))
  | 0 => fun _ _ _ r h => by simp [impl_TableOk.l0] at h
  | k + 1 => by
    have ih0 := impl_TableOk.mono_l k
    intro y0 y1 y2
    unfold impl_TableOk.l0
    repeat' first
      | (with_reducible exact ih0 _ _ _)
      | (with_reducible exact LeO.refl _)
      | (with_reducible exact LeO.none _)
      | (with_reducible refine LeO.ite ?_ ?_)
      | (with_reducible refine LeO.bind ?_ (fun _ => ?_))
theorem impl_TableOk.mono_w (w h : Int) (l p : List Int) (k : Nat) : ∀ r, LeO (impl_TableOk.wk k w h l p r) (impl_TableOk.wk (k + 1) w h l p r)
  | [] => LeO.refl _
  | (a, b) :: r => by
    have ih := impl_TableOk.mono_w w h l p k r
    unfold impl_TableOk.wk
    exact LeO.bind (impl_WalkTable.mono _ _ _ _ _ _ _) (fun x => LeO.ite ih (LeO.refl _))
theorem impl_TableOk.mono : ∀ a0 a1 a2 a3 k, LeO (impl_TableOk.f k a0 a1 a2 a3) (impl_TableOk.f (k + 1) a0 a1 a2 a3) := by
  intro a0 a1 a2 a3 k
  unfold impl_TableOk.f
  exact LeO.bind (LeO.refl _) fun _ => LeO.bind (impl_MeshOk.mono _ _ _ _) fun _ => LeO.ite (LeO.ite (LeO.bind (impl_TableOk.mono_l k _ _ _) fun _ => LeO.ite (impl_TableOk.mono_w _ _ _ _ _ _) (LeO.refl _)) (LeO.refl _)) (LeO.refl _)
theorem nodes_nat {w h n : Int} (hn : impl_NodeCount.f w h = some n) : ∃ m : Nat, n = (m : Int) ∧ m ≤ 16 := by
  unfold impl_NodeCount.f impl_GridOk.f impl_inside.f at hn
  by_cases h1 : 1 ≤ w
  · by_cases h2 : w ≤ 4
    · by_cases h3 : 1 ≤ h
      · by_cases h4 : h ≤ 4
        · have hw : w = 1 ∨ w = 2 ∨ w = 3 ∨ w = 4 := by omega
          have hh : h = 1 ∨ h = 2 ∨ h = 3 ∨ h = 4 := by omega
          rcases hw with rfl | rfl | rfl | rfl <;> rcases hh with rfl | rfl | rfl | rfl <;> simp [wrap64] at hn <;> exact ⟨n.toNat, by omega, by omega⟩
        · simp [h1, h2, h3, h4] at hn; exact ⟨0, by omega, by omega⟩
      · simp [h1, h2, h3] at hn; exact ⟨0, by omega, by omega⟩
    · simp [h1, h2] at hn; exact ⟨0, by omega, by omega⟩
  · simp [h1] at hn; exact ⟨0, by omega, by omega⟩
set_option maxHeartbeats 8000000 in
set_option maxRecDepth 100000 in
/-- the visitor of TableOk: does a walk lead there -/
theorem impl_TableOk.clo (k : Nat) (w h : Int) (A : Option Addr) (c : Nat) (l : List Int) (A1 : Option Addr) (c1 : Nat) (p : List Int) (a b : Int) (x : List Int) (bm bt : Nat) (W : World)
    (bk1 : W.heap[bm]? = some (.cells #[.int .i64 w, .int .i64 h, .slice A l.length c] 34 (0, 0))) (bk2 : W.heap[bt]? = some (.cells #[.slice A1 p.length c1] 36 (0, 0)))
    (hr : Kd.C (Kd.int .i64) W A l.length l) (hc : l.length ≤ c) (hr1 : Kd.C (Kd.int .i64) W A1 p.length p) (hc1 : p.length ≤ c1) (hx : impl_WalkTable.f k w h l p a b = some x) :
    Calls Try.prog 73 #[.int .i64 a, .int .i64 b, .pointer (some ⟨bm, 0, none⟩), .pointer (some ⟨bt, 0, none⟩)] W fun e W' => e = .returned (.bool (decide ((x.length : Int) > 0))) ∧ Below W.heap.size W W' := by
  have hu1 := Try.underlying34
  have hu2 := Try.underlying36
  have HX := Aside0.mk hx
  have HR := Aside0.mk hr
  have HR1 := Aside0.mk hr1
  have BK1 := Aside0.mk bk1
  have BK2 := Aside0.mk bk2
  clear hx hr hr1 bk1 bk2
  have e0 : W.cell? ⟨bm, 0, none⟩ = some (.int .i64 w) := (blk_cell BK1.out 0).trans rfl
  have e1 : W.cell? ⟨bm, 1, none⟩ = some (.int .i64 h) := (blk_cell BK1.out 1).trans rfl
  have e2 : W.cell? ⟨bm, 2, none⟩ = some (.slice A l.length c) := (blk_cell BK1.out 2).trans rfl
  have e3 : W.cell? ⟨bt, 0, none⟩ = some (.slice A1 p.length c1) := (blk_cell BK2.out 0).trans rfl
  have HB := Aside0.mk (Below.refl W.heap.size W)
  cases hd : decide ((x.length : Int) > 0) with
  | true =>
    have hd2 : decide (0 < (x.length : Int)) = true := by simpa using hd
    have hd3 : decide (0 < x.length) = true := by simpa using hd
    clear hd
    go_enter Try.func73, Try.ntmps73
    go_wp2_with (go_at_call 36; refine (impl_WalkTable.calls k w h A c l A1 c1 p a b x _ (Kd.C_below HR.out HB.out) hc (Kd.C_below HR1.out HB.out) hc1 HX.out).mono ?_; rintro e w' ⟨v, rfl, ho, hb⟩; obtain ⟨A2, c2, rfl, hl2, _⟩ := Kd.R_reads ho; clear ho; have HB2 := Aside0.mk hb; clear hb)
    go_ret
    exact ⟨by first | rfl | (simp; done) | (simp [*]; done), HB2.out⟩
  | false =>
    have hd2 : decide (0 < (x.length : Int)) = false := by simpa using hd
    have hd3 : decide (0 < x.length) = false := by simpa using hd
    clear hd
    go_enter Try.func73, Try.ntmps73
    go_wp2_with (go_at_call 36; refine (impl_WalkTable.calls k w h A c l A1 c1 p a b x _ (Kd.C_below HR.out HB.out) hc (Kd.C_below HR1.out HB.out) hc1 HX.out).mono ?_; rintro e w' ⟨v, rfl, ho, hb⟩; obtain ⟨A2, c2, rfl, hl2, _⟩ := Kd.R_reads ho; clear ho; have HB2 := Aside0.mk hb; clear hb)
    go_ret
    exact ⟨by first | rfl | (simp; done) | (simp [*]; done), HB2.out⟩
set_option maxHeartbeats 4000000 in
set_option maxRecDepth 100000 in
theorem impl_TableOk.calls (k : Nat) (a0_0 : Int) (a0_1 : Int) (A0_2 : Option Addr) (c0_2 : Nat) (l0_2 : List Int) (A1_0 : Option Addr) (c1_0 : Nat) (l1_0 : List Int) (r : Bool) (w : World) (hr0_2 : Kd.C (Kd.int .i64) w A0_2 l0_2.length l0_2) (hc0_2 : l0_2.length ≤ c0_2) (hr1_0 : Kd.C (Kd.int .i64) w A1_0 l1_0.length l1_0) (hc1_0 : l1_0.length ≤ c1_0) (h : impl_TableOk.f k a0_0 a0_1 l0_2 l1_0 = some r) :
    Calls Try.prog 20 #[.agg #[.int .i64 a0_0, .int .i64 a0_1, .slice A0_2 l0_2.length c0_2], .agg #[.slice A1_0 l1_0.length c1_0]] w fun e w' => e = .returned (.bool r) ∧ Below w.heap.size w w' := by
  have hu1 := Try.underlying34
  have hu2 := Try.underlying36
  have hu3 := Try.underlying32
  have HR := Aside0.mk hr0_2
  have HR1 := Aside0.mk hr1_0
  have HB := Aside0.mk (Below.refl w.heap.size w)
  unfold impl_TableOk.f at h
  obtain ⟨n, hn, h⟩ := Option.bind_eq_some_iff.1 h
  obtain ⟨m, hm, h⟩ := Option.bind_eq_some_iff.1 h
  obtain ⟨N, rfl, hN⟩ := nodes_nat hn
  simp only [Int.toNat_natCast] at h
  have HN := Aside0.mk hn
  have HM := Aside0.mk hm
  have H := Aside0.mk h
  have hpl : l1_0.length ≤ 9223372036854775807 := hr1_0.2.1
  clear hr0_2 hr1_0 hn hm h
  obtain ⟨M, hM⟩ : ∃ M : Nat, M = N * N := ⟨_, rfl⟩
  have hM2 : M ≤ 256 := by rw [hM]; exact Nat.mul_le_mul hN hN
  have hw0 : wrap64 ((N : Int) * (N : Int)) = (M : Int) := by
    rw [show (N : Int) * (N : Int) = (M : Int) by rw [hM]; simp]
    unfold wrap64; omega
  have hw1 : IntKind.i64.wrap ((N : Int) * (N : Int)) = (M : Int) := (i64_w _).trans hw0
  have HMM := Aside0.mk hM
  have H' : Aside0 ((if m = true then (if (l1_0.length : Int) = (M : Int) then ((impl_TableOk.l0 k (N : Int) 0 l1_0).bind fun d => (if d = true then (impl_TableOk.wk k a0_0 a0_1 l0_2 l1_0 (pall N 0)) else (some false))) else (some false)) else (some false)) = some r) := ⟨by rw [← hw0]; exact H.out⟩
  clear H hM
  have HW0 := Aside0.mk hw0
  clear hw0
  go_enter Try.func20, Try.ntmps20
  go_wp2_with (first | ((with_reducible refine gate_dst (N := 2) rfl ?_); refine box_event ?hg (N := 2) ?hd (cs := #[.int .i64 a0_0, .int .i64 a0_1, .slice A0_2 l0_2.length c0_2]) (t := 34) ?hr ?_; (case hd => rfl); (case hg => rfl); (case hr => first | (go_simp; done) | (go_simp; rfl)); intro gm hg w1 hbox hb; have n1 := Aside0.mk (below_step (by repeat (first | (with_reducible first | exact HB.out | apply below_alloc | apply pw_below_drewN | apply below_drew1) | exact HB.out)) hb); have n2 := Aside0.mk hbox; clear HB hb hbox hg; have HB := n1; have BKm := n2; clear n1 n2) | ((with_reducible refine gate_dst (N := 3) rfl ?_); refine box_event ?hg (N := 3) ?hd (cs := #[.slice A1_0 l1_0.length c1_0]) (t := 36) ?hr ?_; (case hd => rfl); (case hg => rfl); (case hr => first | (go_simp; done) | (go_simp; rfl)); intro gt hg w2 hbox hb; have n1 := Aside0.mk (below_step (by repeat (first | (with_reducible first | exact HB.out | apply below_alloc | apply pw_below_drewN | apply below_drew1) | exact HB.out)) hb); have n2 := Aside0.mk hbox; have n3 := Aside0.mk (blk_below (by (with_reducible repeat (first | refine blk_drewN ?_ _ | refine blk_drew ?_ | refine blk_alloc ?_ _)); exact BKm.out) hb); clear HB BKm hb hbox hg; have HB := n1; have BKt := n2; have BKm := n3; clear n1 n2 n3; have e0 : w2.cell? ⟨gm, 0, none⟩ = some (.int .i64 a0_0) := (blk_cell BKm.out 0).trans rfl; have e1 : w2.cell? ⟨gm, 1, none⟩ = some (.int .i64 a0_1) := (blk_cell BKm.out 1).trans rfl; have e2 : w2.cell? ⟨gm, 2, none⟩ = some (.slice A0_2 l0_2.length c0_2) := (blk_cell BKm.out 2).trans rfl; have e3 : w2.cell? ⟨gt, 0, none⟩ = some (.slice A1_0 l1_0.length c1_0) := (blk_cell BKt.out 0).trans rfl))
  refine (impl_NodeCount.calls a0_0 a0_1 (N : Int) _ HN.out).mono ?_
  rintro e w3 ⟨rfl, hb⟩
  clear e0 e1 e2 e3
  have n1 := Aside0.mk (below_step (by repeat (first | (with_reducible first | exact HB.out | apply below_alloc | apply pw_below_drewN | apply below_drew1) | exact HB.out)) hb)
  have n2 := Aside0.mk (blk_below (by (with_reducible repeat (first | refine blk_drewN ?_ _ | refine blk_drew ?_ | refine blk_alloc ?_ _)); exact BKm.out) hb)
  have n3 := Aside0.mk (blk_below (by (with_reducible repeat (first | refine blk_drewN ?_ _ | refine blk_drew ?_ | refine blk_alloc ?_ _)); exact BKt.out) hb)
  clear HB BKm BKt hb
  have HB := n1
  have BKm := n2
  have BKt := n3
  clear n1 n2 n3
  have e0 : w3.cell? ⟨gm, 0, none⟩ = some (.int .i64 a0_0) := (blk_cell BKm.out 0).trans rfl
  have e1 : w3.cell? ⟨gm, 1, none⟩ = some (.int .i64 a0_1) := (blk_cell BKm.out 1).trans rfl
  have e2 : w3.cell? ⟨gm, 2, none⟩ = some (.slice A0_2 l0_2.length c0_2) := (blk_cell BKm.out 2).trans rfl
  have e3 : w3.cell? ⟨gt, 0, none⟩ = some (.slice A1_0 l1_0.length c1_0) := (blk_cell BKt.out 0).trans rfl
  go_wp2_with (fail)
  refine (impl_MeshOk.calls k a0_0 a0_1 A0_2 c0_2 l0_2 m _ (Kd.C_below HR.out (by repeat (first | (with_reducible first | exact HB.out | apply below_alloc | apply pw_below_drewN | apply below_drew1) | exact HB.out))) hc0_2 HM.out).mono ?_
  rintro e w4 ⟨rfl, hb⟩
  clear e0 e1 e2 e3
  have n1 := Aside0.mk (below_step (by repeat (first | (with_reducible first | exact HB.out | apply below_alloc | apply pw_below_drewN | apply below_drew1) | exact HB.out)) hb)
  have n2 := Aside0.mk (blk_below (by (with_reducible repeat (first | refine blk_drewN ?_ _ | refine blk_drew ?_ | refine blk_alloc ?_ _)); exact BKm.out) hb)
  have n3 := Aside0.mk (blk_below (by (with_reducible repeat (first | refine blk_drewN ?_ _ | refine blk_drew ?_ | refine blk_alloc ?_ _)); exact BKt.out) hb)
  clear HB BKm BKt hb
  have HB := n1
  have BKm := n2
  have BKt := n3
  clear n1 n2 n3
  have e0 : w4.cell? ⟨gm, 0, none⟩ = some (.int .i64 a0_0) := (blk_cell BKm.out 0).trans rfl
  have e1 : w4.cell? ⟨gm, 1, none⟩ = some (.int .i64 a0_1) := (blk_cell BKm.out 1).trans rfl
  have e2 : w4.cell? ⟨gm, 2, none⟩ = some (.slice A0_2 l0_2.length c0_2) := (blk_cell BKm.out 2).trans rfl
  have e3 : w4.cell? ⟨gt, 0, none⟩ = some (.slice A1_0 l1_0.length c1_0) := (blk_cell BKt.out 0).trans rfl
  cases m with
  | false =>
    have h := H'.out
    clear H'
    rw [if_neg (by decide)] at h
    obtain rfl := Option.some.inj h
    go_wp2
    go_ret
    exact ⟨rfl, HB.out⟩
  | true =>
    have H2 := Aside0.mk ((if_pos rfl).symm.trans H'.out)
    clear H'
    by_cases q : l1_0.length = M
    · have H3 := Aside0.mk ((if_pos (show (l1_0.length : Int) = (M : Int) by omega)).symm.trans H2.out)
      clear H2
      obtain ⟨d, hd, h⟩ := Option.bind_eq_some_iff.1 H3.out
      clear H3
      have HD := Aside0.mk hd
      have H4 := Aside0.mk h
      clear hd h
      have q1 : ((l1_0.length : Int) != (M : Int)) = false := bne_eq_false_iff_eq.2 (by omega)
      have q2 : ((l1_0.length : Int) == (M : Int)) = true := beq_iff_eq.2 (by omega)
      have q3 : (l1_0.length != M) = false := bne_eq_false_iff_eq.2 q
      have q4 : (l1_0.length == M) = true := beq_iff_eq.2 q
      have HQ := Aside0.mk q
      clear q
      go_wp2
      go_loopg [23] (N + 1) (fun kq v23 wr => ∃ (i kk : Nat), i ≤ N ∧ N - i < kq ∧ v23 = .int .i64 (i : Int) ∧ Aside0 (impl_TableOk.l0 kk (N : Int) (i : Int) l1_0 = some d) ∧ Aside0 (wr.heap[gm]? = some (.cells #[.int .i64 a0_0, .int .i64 a0_1, .slice A0_2 l0_2.length c0_2] 34 (0, 0))) ∧ Aside0 (wr.heap[gt]? = some (.cells #[.slice A1_0 l1_0.length c1_0] 36 (0, 0))) ∧ Aside0 (Below w.heap.size w wr))
      case atStart => exact ⟨0, k, Nat.zero_le _, by omega, rfl, HD, BKm, BKt, HB⟩
      case round =>
        clear HD BKm BKt HB e0 e1 e2 e3
        obtain ⟨i, kk, hi, hgk, rfl, HD, BKm, BKt, HB⟩ := hrel
        cases kk with
        | zero => exact absurd HD.out (by simp [impl_TableOk.l0])
        | succ kk =>
          have h := HD.out
          clear HD
          simp only [impl_TableOk.l0] at h
          by_cases hlt : i < N
          · have hltz : (i : Int) < (N : Int) := by omega
            rw [if_pos hltz] at h
            obtain ⟨X, hX⟩ : ∃ X : Nat, X = i * N := ⟨_, rfl⟩
            have hX2 : X ≤ 256 := by rw [hX]; exact (Nat.mul_le_mul (show i ≤ 16 by omega) hN : i * N ≤ 16 * 16)
            have hX3 : X + i < M := by
              rw [HMM.out, hX]
              calc i * N + i < i * N + N := by omega
                _ = (i + 1) * N := by rw [Nat.succ_mul]
                _ ≤ N * N := Nat.mul_le_mul_right _ hlt
            obtain ⟨Y, hY⟩ : ∃ Y : Nat, Y = X + i := ⟨_, rfl⟩
            have hY2 : Y ≤ 512 := by omega
            have hY3 : Y < l1_0.length := by rw [HQ.out]; omega
            have p1 : (0 : Int) ≤ (Y : Int) := by omega
            have p2 : (Y : Int) < (l1_0.length : Int) := by omega
            have hy2 : (X : Int) + (i : Int) = (Y : Int) := by omega
            have HY0 : Aside0 (wrap64 ((X : Int) + (i : Int)) = (Y : Int)) := ⟨by unfold wrap64; omega⟩
            have HX0 : Aside0 (wrap64 ((i : Int) * (N : Int)) = (X : Int)) := ⟨by
              rw [show (i : Int) * (N : Int) = (X : Int) by rw [hX]; simp]
              unfold wrap64; omega⟩
            rw [HX0.out, HY0.out, if_pos p1, if_pos p2] at h
            have H5 := Aside0.mk h
            have HX1 := Aside0.mk ((i64_w _).trans HX0.out)
            have HY1 := Aside0.mk ((i64_w _).trans HY0.out)
            clear h hX hY HX0 HY0
            obtain ⟨ad, ead, hx⟩ := Kd.at_int (Kd.C_below HR1.out HB.out) (Y : Int) p1 p2
            subst ead
            have ht : ((Y : Int)).toNat = Y := by simp
            rw [ht] at hx
            clear ht
            generalize hz : rd l1_0 (Y : Int) = z at hx
            have HZ := Aside0.mk hz
            clear hz
            have e3 : wr.cell? ⟨gt, 0, none⟩ = some (.slice (some ad) l1_0.length c1_0) := (blk_cell BKt.out 0).trans rfl
            by_cases q5 : z = 4
            · have q6 : (z != 4) = false := bne_eq_false_iff_eq.2 q5
              have q7 : (z == 4) = true := beq_iff_eq.2 q5
              have H6 : Aside0 (impl_TableOk.l0 kk (N : Int) ((i + 1 : Nat) : Int) l1_0 = some d) := ⟨by
                have h := H5.out
                rw [HZ.out, if_pos q5] at h
                rw [show ((i + 1 : Nat) : Int) = wrap64 ((i : Int) + 1) by unfold wrap64; omega]
                exact h⟩
              clear H5 HZ q5
              have hx1 := HX1.out
              have hy1 := HY1.out
              go_wp2
              clear hx1 hy1
              go_roundg (N - i)
              case measure => omega
              case rel => exact ⟨i + 1, kk, by omega, by omega, by go_num, H6, BKm, BKt, HB⟩
            · have q6 : (z != 4) = true := bne_iff_ne.2 q5
              have q7 : (z == 4) = false := beq_eq_false_iff_ne.2 q5
              have h := H5.out
              rw [HZ.out, if_neg q5] at h
              obtain rfl := Option.some.inj h
              have h2 := H4.out
              rw [if_neg (by decide)] at h2
              obtain rfl := Option.some.inj h2
              clear H5 H4 HZ q5
              have hx1 := HX1.out
              have hy1 := HY1.out
              go_wp2
              go_ret
              exact ⟨rfl, HB.out⟩
          · have hltz : ¬ (i : Int) < (N : Int) := by omega
            rw [if_neg hltz] at h
            obtain rfl := Option.some.inj h
            have H6 := Aside0.mk ((if_pos rfl).symm.trans H4.out)
            clear H4
            have e0 : wr.cell? ⟨gm, 0, none⟩ = some (.int .i64 a0_0) := (blk_cell BKm.out 0).trans rfl
            have e1 : wr.cell? ⟨gm, 1, none⟩ = some (.int .i64 a0_1) := (blk_cell BKm.out 1).trans rfl
            have e2 : wr.cell? ⟨gm, 2, none⟩ = some (.slice A0_2 l0_2.length c0_2) := (blk_cell BKm.out 2).trans rfl
            go_wp2_with (fail)
            refine (impl_pairs.abs a0_0 a0_1 N HN.out hN 73 #[.pointer (some ⟨gm, 0, none⟩), .pointer (some ⟨gt, 0, none⟩)] r (fun l W => impl_TableOk.wk k a0_0 a0_1 l0_2 l1_0 l = some r ∧ Below w.heap.size w W ∧ W.heap[gm]? = some (.cells #[.int .i64 a0_0, .int .i64 a0_1, .slice A0_2 l0_2.length c0_2] 34 (0, 0)) ∧ W.heap[gt]? = some (.cells #[.slice A1_0 l1_0.length c1_0] 36 (0, 0))) (fun W => Below w.heap.size w W) (fun args W => by kernel_rfl) ?hJ ?hstep ?hend _ ⟨H6.out, HB.out, BKm.out, BKt.out⟩).mono ?_
            case hJ =>
              rintro l W W' ⟨h1, h2, h3, h4⟩ hb
              exact ⟨h1, below_step h2 hb, blk_below h3 hb, blk_below h4 hb⟩
            case hstep =>
              rintro a b l W ⟨h1, h2, h3, h4⟩
              unfold impl_TableOk.wk at h1
              obtain ⟨x, hx, h1⟩ := Option.bind_eq_some_iff.1 h1
              refine ⟨decide ((x.length : Int) > 0), (impl_TableOk.clo k a0_0 a0_1 A0_2 c0_2 l0_2 A1_0 c1_0 l1_0 a b x gm gt W h3 h4 (Kd.C_below HR.out h2) hc0_2 (Kd.C_below HR1.out h2) hc1_0 hx).mono ?_⟩
              rintro e W' ⟨rfl, hb⟩
              refine ⟨rfl, fun hd => ⟨?_, below_step h2 hb, blk_below h3 hb, blk_below h4 hb⟩, fun hd => ⟨?_, below_step h2 hb⟩⟩
              · rw [if_pos (of_decide_eq_true hd)] at h1; exact h1
              · rw [if_neg (of_decide_eq_false hd)] at h1; exact (Option.some.inj h1).symm
            case hend =>
              rintro W ⟨h1, h2, _, _⟩
              exact ⟨(Option.some.inj h1).symm, h2⟩
            rintro e w' ⟨rfl, hb⟩
            go_wp2
            go_ret
            exact ⟨rfl, hb⟩
    · have q1 : ((l1_0.length : Int) != (M : Int)) = true := bne_iff_ne.2 (by omega)
      have q2 : ((l1_0.length : Int) == (M : Int)) = false := beq_eq_false_iff_ne.2 (by omega)
      have q3 : (l1_0.length != M) = true := bne_iff_ne.2 q
      have q4 : (l1_0.length == M) = false := beq_eq_false_iff_ne.2 q
      have h := H2.out
      clear H2
      rw [if_neg (by omega)] at h
      obtain rfl := Option.some.inj h
      clear q
      go_wp2
      go_ret
      exact ⟨rfl, HB.out⟩



-- NOT PRINTED: function 75 (impl_LongestWalk_1)


/-! ### impl_LongestWalk: function 24 (by hand) -/
def cellv (W : World) (g : Nat) : Int := match W.cell? ⟨g, 0, none⟩ with | some (.int _ v) => v | _ => 0
/-- what the visitor of LongestWalk holds of the world: the boxes of the mesh and of the table, the block of the longest walk -/
def LwT (w0 : World) (w h : Int) (A : Option Addr) (n c : Nat) (A1 : Option Addr) (n1 c1 bo bm bt : Nat) (V : Int → Prop) (W : World) : Prop :=
  Below w0.heap.size w0 W ∧ W.heap[bm]? = some (.cells #[.int .i64 w, .int .i64 h, .slice A n c] 34 (0, 0)) ∧ W.heap[bt]? = some (.cells #[.slice A1 n1 c1] 36 (0, 0)) ∧ ∃ v : Int, V v ∧ W.heap[bo]? = some (.cells #[.int .i64 v] 3 (0, 0))
section
variable {w0 W W1 : World} {w h : Int} {A A1 : Option Addr} {n c n1 c1 bo bm bt : Nat} {V V' : Int → Prop}
theorem LwT.below (t : LwT w0 w h A n c A1 n1 c1 bo bm bt V W) (hb : Below W.heap.size W W1) : LwT w0 w h A n c A1 n1 c1 bo bm bt V W1 := by
  obtain ⟨t1, t2, t3, v, hv, t4⟩ := t
  exact ⟨below_step t1 hb, blk_below t2 hb, blk_below t3 hb, v, hv, blk_below t4 hb⟩
theorem LwT.drew (t : LwT w0 w h A n c A1 n1 c1 bo bm bt V W) : LwT w0 w h A n c A1 n1 c1 bo bm bt V W.drew := by
  obtain ⟨t1, t2, t3, v, hv, t4⟩ := t
  exact ⟨below_drew1 t1, blk_drew t2, blk_drew t3, v, hv, blk_drew t4⟩
theorem LwT.store (t : LwT w0 w h A n c A1 n1 c1 bo bm bt V W) (h0 : w0.heap.size ≤ bo) (nm : bm ≠ bo) (nt : bt ≠ bo) {u : Int} (hu : V' u) : LwT w0 w h A n c A1 n1 c1 bo bm bt V' (W.setCell ⟨bo, 0, none⟩ (.int .i64 u)) := by
  obtain ⟨t1, t2, t3, v, hv, t4⟩ := t
  exact ⟨below_set t1 h0, blk_far t2 nm _, blk_far t3 nt _, u, hu, blk_put t4 0 _ rfl⟩
theorem LwT.val (t : LwT w0 w h A n c A1 n1 c1 bo bm bt V W) : V (cellv W bo) := by
  obtain ⟨t1, t2, t3, v, hv, t4⟩ := t
  have e : W.cell? ⟨bo, 0, none⟩ = some (.int .i64 v) := (blk_cell t4 0).trans rfl
  have e2 : cellv W bo = v := by unfold cellv; rw [e]
  rw [e2]; exact hv
theorem LwT.cells (t : LwT w0 w h A n c A1 n1 c1 bo bm bt V W) : W.cell? ⟨bm, 0, none⟩ = some (.int .i64 w) ∧ W.cell? ⟨bm, 1, none⟩ = some (.int .i64 h) ∧ W.cell? ⟨bm, 2, none⟩ = some (.slice A n c) ∧ W.cell? ⟨bt, 0, none⟩ = some (.slice A1 n1 c1) ∧ W.cell? ⟨bo, 0, none⟩ = some (.int .i64 (cellv W bo)) ∧ W.frozen? ⟨bo, 0, none⟩ = false ∧ Aside0 (LwT w0 w h A n c A1 n1 c1 bo bm bt V W) := by
  have t0 := t
  obtain ⟨t1, t2, t3, v, hv, t4⟩ := t
  have e : W.cell? ⟨bo, 0, none⟩ = some (.int .i64 v) := (blk_cell t4 0).trans rfl
  have e2 : cellv W bo = v := by unfold cellv; rw [e]
  exact ⟨(blk_cell t2 0).trans rfl, (blk_cell t2 1).trans rfl, (blk_cell t2 2).trans rfl, (blk_cell t3 0).trans rfl, by rw [e2]; exact e, blk_frozen t4 0, ⟨t0⟩⟩
end
def mxn (a b : Nat) : Int := if a < b then (b : Int) else (a : Int)
theorem mxn_idem {mo len : Nat} {v : Int} (hv : v = (mo : Int) ∨ v = mxn mo len) : (if v < (len : Int) then (len : Int) else v) = mxn mo len := by
  unfold mxn at *
  rcases hv with rfl | rfl
  · split <;> split <;> omega
  · split <;> split <;> omega
set_option maxHeartbeats 8000000 in
set_option maxRecDepth 100000 in
/-- the visitor of LongestWalk: the longest walk till here -/
theorem impl_LongestWalk.clo (k : Nat) (w h : Int) (A : Option Addr) (c : Nat) (l : List Int) (A1 : Option Addr) (c1 : Nat) (p : List Int) (a b : Int) (x : List Int) (mo : Nat) (bo bm bt : Nat) (w0 W : World) (h0 : w0.heap.size ≤ bo) (nm : bm ≠ bo) (nt : bt ≠ bo)
    (ht : LwT w0 w h A l.length c A1 p.length c1 bo bm bt (fun v => v = (mo : Int)) W)
    (hr : Kd.C (Kd.int .i64) w0 A l.length l) (hc : l.length ≤ c) (hr1 : Kd.C (Kd.int .i64) w0 A1 p.length p) (hc1 : p.length ≤ c1) (hx : impl_WalkTable.f k w h l p a b = some x) :
    Calls Try.prog 75 #[.int .i64 a, .int .i64 b, .pointer (some ⟨bo, 0, none⟩), .pointer (some ⟨bm, 0, none⟩), .pointer (some ⟨bt, 0, none⟩)] W fun e W' => e = .returned (.bool true) ∧ LwT w0 w h A l.length c A1 p.length c1 bo bm bt (fun v => v = mxn mo x.length) W' := by
  have hu1 := Try.underlying34
  have hu2 := Try.underlying36
  have hu3 := Try.underlying32
  have HX := Aside0.mk hx
  have HR := Aside0.mk hr
  have HR1 := Aside0.mk hr1
  have HT := Aside0.mk ht
  have HN := Aside0.mk (And.intro h0 (And.intro nm nt))
  have CC : Aside0 (∀ W', LwT w0 w h A l.length c A1 p.length c1 bo bm bt (fun v => v = (mo : Int)) W' → W'.cell? ⟨bm, 0, none⟩ = some (.int .i64 w) ∧ W'.cell? ⟨bm, 1, none⟩ = some (.int .i64 h) ∧ W'.cell? ⟨bm, 2, none⟩ = some (.slice A l.length c) ∧ W'.cell? ⟨bt, 0, none⟩ = some (.slice A1 p.length c1) ∧ W'.cell? ⟨bo, 0, none⟩ = some (.int .i64 (mo : Int)) ∧ W'.frozen? ⟨bo, 0, none⟩ = false) := ⟨fun W' t => by
    obtain ⟨t1, t2, t3, v, rfl, t4⟩ := t
    exact ⟨(blk_cell t2 0).trans rfl, (blk_cell t2 1).trans rfl, (blk_cell t2 2).trans rfl, (blk_cell t3 0).trans rfl, (blk_cell t4 0).trans rfl, blk_frozen t4 0⟩⟩
  clear hx hr hr1 ht h0 nm nt
  obtain ⟨e0, e1, e2, e3, e4, e5⟩ := CC.out W HT.out
  go_enter Try.func75, Try.ntmps75
  go_wp2_with (fail)
  go_region_law (first | (go_simp; go_at_call 36; refine (impl_WalkTable.calls k w h A c l A1 c1 p a b x _ (Kd.C_below HR.out (below_drew1 HT.out.1)) hc (Kd.C_below HR1.out (below_drew1 HT.out.1)) hc1 HX.out).mono ?_; rintro e w' ⟨v, rfl, ho, hb⟩; obtain ⟨A2, c2, rfl, hl2, _⟩ := Kd.R_reads ho; clear ho; have HT2 := Aside0.mk (LwT.below (LwT.drew HT.out) hb); clear hb; obtain ⟨f0, f1, f2, f3, f4, f5⟩ := CC.out w' HT2.out))
  all_goals go_wp2
  all_goals go_ret
  all_goals exact ⟨by first | rfl | (simp; done), LwT.store HT2.out HN.out.1 HN.out.2.1 HN.out.2.2 (by first | rfl | (show _ = mxn mo x.length; unfold mxn; split <;> first | rfl | omega))⟩
def impl_LongestWalk.wk (k : Nat) (w h : Int) (l p : List Int) : List (Int × Int) → Nat → Option (Int)
  | [], mo => some (mo : Int)
  | (a, b) :: r, mo => (impl_WalkTable.f k w h l p a b).bind fun x => (impl_LongestWalk.wk k w h l p r (if mo < x.length then x.length else mo))
def impl_LongestWalk.f (k : Nat) (a0_0 : Int) (a0_1 : Int) (l0_2 : List Int) (l1_0 : List Int) : Option (Int) := (impl_TableOk.f k a0_0 a0_1 l0_2 l1_0).bind fun t => (if t = true then ((impl_NodeCount.f a0_0 a0_1).bind fun n => (impl_LongestWalk.wk k a0_0 a0_1 l0_2 l1_0 (pall n.toNat 0) 0)) else (some (-1)))
theorem impl_LongestWalk.mono_w (w h : Int) (l p : List Int) (k : Nat) : ∀ r mo, LeO (impl_LongestWalk.wk k w h l p r mo) (impl_LongestWalk.wk (k + 1) w h l p r mo)
  | [], _ => LeO.refl _
  | (a, b) :: r, mo => by
    unfold impl_LongestWalk.wk
    exact LeO.bind (impl_WalkTable.mono _ _ _ _ _ _ _) (fun x => impl_LongestWalk.mono_w w h l p k r _)
theorem impl_LongestWalk.mono : ∀ a0 a1 a2 a3 k, LeO (impl_LongestWalk.f k a0 a1 a2 a3) (impl_LongestWalk.f (k + 1) a0 a1 a2 a3) := by
  intro a0 a1 a2 a3 k
  unfold impl_LongestWalk.f
  exact LeO.bind (impl_TableOk.mono _ _ _ _ _) fun _ => LeO.ite (LeO.bind (LeO.refl _) fun _ => impl_LongestWalk.mono_w _ _ _ _ _ _ _) (LeO.refl _)
theorem mxn_nat (a b : Nat) : mxn a b = ((if a < b then b else a : Nat) : Int) := by unfold mxn; split <;> rfl
theorem alloc_at (w : World) (o : Obj) : (w.alloc o).heap[w.heap.size]? = some o := blk_new w o

set_option maxHeartbeats 4000000 in
set_option maxRecDepth 100000 in
theorem impl_LongestWalk.calls (k : Nat) (a0_0 : Int) (a0_1 : Int) (A0_2 : Option Addr) (c0_2 : Nat) (l0_2 : List Int) (A1_0 : Option Addr) (c1_0 : Nat) (l1_0 : List Int) (r : Int) (w : World) (hr0_2 : Kd.C (Kd.int .i64) w A0_2 l0_2.length l0_2) (hc0_2 : l0_2.length ≤ c0_2) (hr1_0 : Kd.C (Kd.int .i64) w A1_0 l1_0.length l1_0) (hc1_0 : l1_0.length ≤ c1_0) (h : impl_LongestWalk.f k a0_0 a0_1 l0_2 l1_0 = some r) :
    Calls Try.prog 24 #[.agg #[.int .i64 a0_0, .int .i64 a0_1, .slice A0_2 l0_2.length c0_2], .agg #[.slice A1_0 l1_0.length c1_0]] w fun e w' => e = .returned (.int .i64 r) ∧ Below w.heap.size w w' := by
  have hu1 := Try.underlying34
  have hu2 := Try.underlying36
  have hu3 := Try.underlying32
  have HR := Aside0.mk hr0_2
  have HR1 := Aside0.mk hr1_0
  have HB := Aside0.mk (Below.refl w.heap.size w)
  unfold impl_LongestWalk.f at h
  obtain ⟨t, ht, h⟩ := Option.bind_eq_some_iff.1 h
  have HT := Aside0.mk ht
  have H := Aside0.mk h
  clear hr0_2 hr1_0 ht h
  go_enter Try.func24, Try.ntmps24
  go_wp2_with (first | ((with_reducible refine gate_dst (N := 2) rfl ?_); refine box_event ?hg (N := 2) ?hd (cs := #[.int .i64 a0_0, .int .i64 a0_1, .slice A0_2 l0_2.length c0_2]) (t := 34) ?hr ?_; (case hd => rfl); (case hg => rfl); (case hr => first | (go_simp; done) | (go_simp; rfl)); intro gm hg w1 hbox hb; have n1 := Aside0.mk (below_step (by repeat (first | (with_reducible first | exact HB.out | apply below_alloc | apply pw_below_drewN | apply below_drew1) | exact HB.out)) hb); have n2 := Aside0.mk hbox; clear HB hb hbox hg; have HB := n1; have BKm := n2; clear n1 n2) | ((with_reducible refine gate_dst (N := 3) rfl ?_); refine box_event ?hg (N := 3) ?hd (cs := #[.slice A1_0 l1_0.length c1_0]) (t := 36) ?hr ?_; (case hd => rfl); (case hg => rfl); (case hr => first | (go_simp; done) | (go_simp; rfl)); intro gt hg w2 hbox hb; have n1 := Aside0.mk (below_step (by repeat (first | (with_reducible first | exact HB.out | apply below_alloc | apply pw_below_drewN | apply below_drew1) | exact HB.out)) hb); have n2 := Aside0.mk hbox; have n3 := Aside0.mk (blk_below (by (with_reducible repeat (first | refine blk_drewN ?_ _ | refine blk_drew ?_ | refine blk_alloc ?_ _)); exact BKm.out) hb); clear HB BKm hb hbox hg; have HB := n1; have BKt := n2; have BKm := n3; clear n1 n2 n3; have e0 : w2.cell? ⟨gm, 0, none⟩ = some (.int .i64 a0_0) := (blk_cell BKm.out 0).trans rfl; have e1 : w2.cell? ⟨gm, 1, none⟩ = some (.int .i64 a0_1) := (blk_cell BKm.out 1).trans rfl; have e2 : w2.cell? ⟨gm, 2, none⟩ = some (.slice A0_2 l0_2.length c0_2) := (blk_cell BKm.out 2).trans rfl; have e3 : w2.cell? ⟨gt, 0, none⟩ = some (.slice A1_0 l1_0.length c1_0) := (blk_cell BKt.out 0).trans rfl))
  refine (impl_TableOk.calls k a0_0 a0_1 A0_2 c0_2 l0_2 A1_0 c1_0 l1_0 t _ (Kd.C_below HR.out (by repeat (first | (with_reducible first | exact HB.out | apply below_alloc | apply pw_below_drewN | apply below_drew1) | exact HB.out))) hc0_2 (Kd.C_below HR1.out (by repeat (first | (with_reducible first | exact HB.out | apply below_alloc | apply pw_below_drewN | apply below_drew1) | exact HB.out))) hc1_0 HT.out).mono ?_
  rintro e w3 ⟨rfl, hb⟩
  clear e0 e1 e2 e3
  have n1 := Aside0.mk (below_step (by repeat (first | (with_reducible first | exact HB.out | apply below_alloc | apply pw_below_drewN | apply below_drew1) | exact HB.out)) hb)
  have n2 := Aside0.mk (blk_below (by (with_reducible repeat (first | refine blk_drewN ?_ _ | refine blk_drew ?_ | refine blk_alloc ?_ _)); exact BKm.out) hb)
  have n3 := Aside0.mk (blk_below (by (with_reducible repeat (first | refine blk_drewN ?_ _ | refine blk_drew ?_ | refine blk_alloc ?_ _)); exact BKt.out) hb)
  clear HB BKm BKt hb
  have HB := n1
  have BKm := n2
  have BKt := n3
  clear n1 n2 n3
  have e0 : w3.cell? ⟨gm, 0, none⟩ = some (.int .i64 a0_0) := (blk_cell BKm.out 0).trans rfl
  have e1 : w3.cell? ⟨gm, 1, none⟩ = some (.int .i64 a0_1) := (blk_cell BKm.out 1).trans rfl
  have e2 : w3.cell? ⟨gm, 2, none⟩ = some (.slice A0_2 l0_2.length c0_2) := (blk_cell BKm.out 2).trans rfl
  have e3 : w3.cell? ⟨gt, 0, none⟩ = some (.slice A1_0 l1_0.length c1_0) := (blk_cell BKt.out 0).trans rfl
  cases t with
  | false =>
    have h := H.out
    clear H
    rw [if_neg (by decide)] at h
    obtain rfl := Option.some.inj h
    go_wp2
    go_ret
    exact ⟨rfl, HB.out⟩
  | true =>
    have h := (if_pos rfl).symm.trans H.out
    clear H
    obtain ⟨n, hn, h⟩ := Option.bind_eq_some_iff.1 h
    obtain ⟨N, rfl, hN⟩ := nodes_nat hn
    rw [Int.toNat_natCast] at h
    have H6 := Aside0.mk h
    have HN := Aside0.mk hn
    clear h hn
    have n9 := Aside0.mk (show w.heap.size ≤ w3.heap.size from below_size HB.out)
    have NBm := Aside0.mk (Nat.ne_of_lt (blk_lt BKm.out))
    have NBt := Aside0.mk (Nat.ne_of_lt (blk_lt BKt.out))
    have T4 : LwT w a0_0 a0_1 A0_2 l0_2.length c0_2 A1_0 l1_0.length c1_0 w3.heap.size gm gt (fun v => v = ((0 : Nat) : Int)) (w3.alloc (.cells #[.int .i64 0] 3 (0, 0))) := ⟨below_alloc HB.out _, blk_alloc BKm.out _, blk_alloc BKt.out _, 0, rfl, alloc_at _ _⟩
    obtain ⟨g0, g1, g2, g3, _, g5, _⟩ := LwT.cells T4
    have T5 := Aside0.mk T4
    clear T4
    go_wp2_with (fail)
    refine (impl_pairs.abs a0_0 a0_1 N HN.out hN 75 #[.pointer (some ⟨w3.heap.size, 0, none⟩), .pointer (some ⟨gm, 0, none⟩), .pointer (some ⟨gt, 0, none⟩)] true (fun l W => ∃ mo : Nat, impl_LongestWalk.wk k a0_0 a0_1 l0_2 l1_0 l mo = some r ∧ LwT w a0_0 a0_1 A0_2 l0_2.length c0_2 A1_0 l1_0.length c1_0 w3.heap.size gm gt (fun v => v = (mo : Int)) W) (fun W => LwT w a0_0 a0_1 A0_2 l0_2.length c0_2 A1_0 l1_0.length c1_0 w3.heap.size gm gt (fun v => v = r) W) (fun args W => by kernel_rfl) ?hJ ?hstep ?hend _ ⟨0, H6.out, ?hT⟩).mono ?_
    case hT =>
      exact T5.out
    case hJ =>
      rintro l W W' ⟨mo, h1, h2⟩ hb
      exact ⟨mo, h1, LwT.below h2 hb⟩
    case hstep =>
      rintro a b l W ⟨mo, h1, h2⟩
      unfold impl_LongestWalk.wk at h1
      obtain ⟨x, hx, h1⟩ := Option.bind_eq_some_iff.1 h1
      refine ⟨true, (impl_LongestWalk.clo k a0_0 a0_1 A0_2 c0_2 l0_2 A1_0 c1_0 l1_0 a b x mo w3.heap.size gm gt w W n9.out NBm.out NBt.out h2 HR.out hc0_2 HR1.out hc1_0 hx).mono ?_⟩
      rintro e W' ⟨rfl, ht⟩
      refine ⟨rfl, fun _ => ⟨_, h1, ?_⟩, fun hd => absurd hd (by decide)⟩
      obtain ⟨t1, t2, t3, v, hv, t4⟩ := ht
      exact ⟨t1, t2, t3, v, hv.trans (mxn_nat _ _), t4⟩
    case hend =>
      rintro W ⟨mo, h1, t1, t2, t3, v, hv, t4⟩
      exact ⟨rfl, t1, t2, t3, v, hv.trans (Option.some.inj h1), t4⟩
    rintro e w' ⟨rfl, t1, t2, t3, v, hv, t4⟩
    subst hv
    have e9 : w'.cell? ⟨w3.heap.size, 0, none⟩ = some (.int .i64 v) := (blk_cell t4 0).trans rfl
    go_wp2
    go_ret
    exact ⟨rfl, t1⟩



/-! ### laws_FnExactLongestWalk: function 4 -/
def laws_FnExactLongestWalk.f (k : Nat) (a0_0 : Int) (a0_1 : Int) (l0_2 : List Int) (l1_0 : List Int) : Option (Bool) := (laws_szMesh.f a0_0 a0_1 l0_2 1048576).bind fun t275 => (if t275 < 0 then (some true) else ((laws_szTable.f l1_0 t275).bind fun t276 => (if t276 < 0 then (some true) else ((laws_toMesh.f k a0_0 a0_1 l0_2).bind fun bt277 => ((laws_toTable.f k l1_0).bind fun t282 => ((spec_LongestWalk.f k bt277.1 bt277.2.1 bt277.2.2 t282).bind fun t285 => ((laws_toMesh.f k a0_0 a0_1 l0_2).bind fun bt286 => ((laws_toTable.f k l1_0).bind fun t292 => ((impl_LongestWalk.f k bt286.1 bt286.2.1 bt286.2.2 t292).bind fun t296 => (if t296 = t285 then ((laws_toMesh.f k a0_0 a0_1 l0_2).bind fun bt297 => ((laws_eqMesh.f k bt286.1 bt286.2.1 bt286.2.2 bt297.1 bt297.2.1 bt297.2.2).bind fun t302 => (if t302 = true then ((laws_toTable.f k l1_0).bind fun t303 => ((laws_eqTable.f k t292 t303).bind fun t306 => (if t306 = true then (some true) else (some false)))) else (some false)))) else (some false)))))))))))
theorem laws_FnExactLongestWalk.mono : ∀ a0 a1 a2 a3 k, LeO (laws_FnExactLongestWalk.f k a0 a1 a2 a3) (laws_FnExactLongestWalk.f (k + 1) a0 a1 a2 a3) := by
  intro a0 a1 a2 a3 k
  unfold laws_FnExactLongestWalk.f
  repeat' first
      | (with_reducible exact impl_LongestWalk.mono _ _ _ _ _)
      | (with_reducible exact laws_eqMesh.mono _ _ _ _ _ _ _)
      | (with_reducible exact laws_eqTable.mono _ _ _)
      | (with_reducible exact laws_toMesh.mono _ _ _ _)
      | (with_reducible exact laws_toTable.mono _ _)
      | (with_reducible exact spec_LongestWalk.mono _ _ _ _ _)
      | (with_reducible exact LeO.refl _)
      | (with_reducible exact LeO.none _)
      | (with_reducible refine LeO.ite ?_ ?_)
      | (with_reducible refine LeO.bind ?_ (fun _ => ?_))
      | exact impl_LongestWalk.mono _ _ _ _ _
      | exact laws_eqMesh.mono _ _ _ _ _ _ _
      | exact laws_eqTable.mono _ _ _
      | exact laws_toMesh.mono _ _ _ _
      | exact laws_toTable.mono _ _
      | exact spec_LongestWalk.mono _ _ _ _ _
      | exact LeO.none _
      | refine LeO.ite ?_ ?_
      | refine LeO.bind ?_ (fun _ => ?_)
set_option maxHeartbeats 8000000 in
set_option maxRecDepth 100000 in
theorem laws_FnExactLongestWalk.calls (k : Nat) (a0_0 : Int) (a0_1 : Int) (A0_2 : Option Addr) (c0_2 : Nat) (l0_2 : List Int) (A1_0 : Option Addr) (c1_0 : Nat) (l1_0 : List Int) (r : Bool) (w : World) (hr0_2 : Kd.C (Kd.int .i64) w A0_2 l0_2.length l0_2) (hc0_2 : l0_2.length ≤ c0_2) (hr1_0 : Kd.C (Kd.int .i64) w A1_0 l1_0.length l1_0) (hc1_0 : l1_0.length ≤ c1_0) (hrt0 : r = true) (h : laws_FnExactLongestWalk.f k a0_0 a0_1 l0_2 l1_0 = some r) :
    Calls Try.prog 4 #[.agg #[.int .i64 a0_0, .int .i64 a0_1, .slice A0_2 l0_2.length c0_2], .agg #[.slice A1_0 l1_0.length c1_0]] w fun e w' => e = .returned (.bool r) ∧ Below w.heap.size w w' := by
  have hu26 := Try.underlying26
  have hu28 := Try.underlying28
  have hu34 := Try.underlying34
  have hu36 := Try.underlying36
  have HRT := Aside0.mk hrt0
  clear hrt0
  have HR0_2 := Aside0.mk hr0_2
  have HC0_2 := Aside0.mk hc0_2
  clear hr0_2 hc0_2
  have HR1_0 := Aside0.mk hr1_0
  have HC1_0 := Aside0.mk hc1_0
  clear hr1_0 hc1_0
  have HB := Aside0.mk (Below.refl w.heap.size w)
  have H : ((laws_szMesh.f a0_0 a0_1 l0_2 1048576).bind fun t275 => (if t275 < 0 then (some true) else ((laws_szTable.f l1_0 t275).bind fun t276 => (if t276 < 0 then (some true) else ((laws_toMesh.f k a0_0 a0_1 l0_2).bind fun bt277 => ((laws_toTable.f k l1_0).bind fun t282 => ((spec_LongestWalk.f k bt277.1 bt277.2.1 bt277.2.2 t282).bind fun t285 => ((laws_toMesh.f k a0_0 a0_1 l0_2).bind fun bt286 => ((laws_toTable.f k l1_0).bind fun t292 => ((impl_LongestWalk.f k bt286.1 bt286.2.1 bt286.2.2 t292).bind fun t296 => (if t296 = t285 then ((laws_toMesh.f k a0_0 a0_1 l0_2).bind fun bt297 => ((laws_eqMesh.f k bt286.1 bt286.2.1 bt286.2.2 bt297.1 bt297.2.1 bt297.2.2).bind fun t302 => (if t302 = true then ((laws_toTable.f k l1_0).bind fun t303 => ((laws_eqTable.f k t292 t303).bind fun t306 => (if t306 = true then (some true) else (some false)))) else (some false)))) else (some false)))))))))))) = some r := h
  clear h
  replace H := Option.bind_eq_some_iff.mp H
  obtain ⟨t275, A30, H⟩ := H
  replace H : (if t275 < 0 then (some true) else ((laws_szTable.f l1_0 t275).bind fun t276 => (if t276 < 0 then (some true) else ((laws_toMesh.f k a0_0 a0_1 l0_2).bind fun bt277 => ((laws_toTable.f k l1_0).bind fun t282 => ((spec_LongestWalk.f k bt277.1 bt277.2.1 bt277.2.2 t282).bind fun t285 => ((laws_toMesh.f k a0_0 a0_1 l0_2).bind fun bt286 => ((laws_toTable.f k l1_0).bind fun t292 => ((impl_LongestWalk.f k bt286.1 bt286.2.1 bt286.2.2 t292).bind fun t296 => (if t296 = t285 then ((laws_toMesh.f k a0_0 a0_1 l0_2).bind fun bt297 => ((laws_eqMesh.f k bt286.1 bt286.2.1 bt286.2.2 bt297.1 bt297.2.1 bt297.2.2).bind fun t302 => (if t302 = true then ((laws_toTable.f k l1_0).bind fun t303 => ((laws_eqTable.f k t292 t303).bind fun t306 => (if t306 = true then (some true) else (some false)))) else (some false)))) else (some false))))))))))) = some r := H
  have A3 := Aside0.mk A30
  clear A30
  by_cases c4 : t275 < 0
  · rw [if_pos c4] at H
    have c4b0 : decide (t275 < 0) = true := decide_eq_true c4
    clear c4
    obtain rfl := Option.some.inj H
    go_enter Try.func4, Try.ntmps4
    go_wp2_with (first | ((with_reducible refine gate_dst (N := 2) rfl ?_); refine box_event ?hg (N := 2) ?hd (cs := #[.int .i64 a0_0, .int .i64 a0_1, .slice A0_2 l0_2.length c0_2]) (t := 26) ?hr ?_; (case hd => rfl); (case hg => rfl); (case hr => first | (go_simp; done) | (go_simp; rfl)); intro gb273 hg w5 hbox hb; have n0_ := Aside0.mk (below_step (by repeat (first | (with_reducible first | exact HB.out | apply below_alloc | apply pw_below_drewN | apply below_drew1) | exact HB.out)) hb); have n1_ := Aside0.mk (hbox); have n2_ := Aside0.mk ((by rw [hg]; exact (below_size (by repeat (first | (with_reducible first | exact HB.out | apply below_alloc | apply pw_below_drewN | apply below_drew1) | exact HB.out))) : w.heap.size ≤ gb273)); have n3_ := Aside0.mk ((by rw [hg]; exact (below_size (by repeat (first | (with_reducible first | exact HB.out | apply below_alloc | apply pw_below_drewN | apply below_drew1) | exact HB.out))) : w.heap.size ≤ gb273)); clear HB; have HB := n0_; have BK273 := n1_; have GW273 := n2_; have GE273 := n3_; clear n0_ n1_ n2_ n3_; clear hb hbox hg) | ((with_reducible refine gate_dst (N := 3) rfl ?_); refine box_event ?hg (N := 3) ?hd (cs := #[.slice A1_0 l1_0.length c1_0]) (t := 28) ?hr ?_; (case hd => rfl); (case hg => rfl); (case hr => first | (go_simp; done) | (go_simp; rfl)); intro gb274 hg w6 hbox hb; have n0_ := Aside0.mk (blk_below (g := gb273) (o := .cells #[.int .i64 a0_0, .int .i64 a0_1, .slice A0_2 l0_2.length c0_2] 26 (0, 0)) (by (with_reducible repeat (first | refine blk_drewN ?_ _ | refine blk_drew ?_ | refine blk_alloc ?_ _)); exact BK273.out) hb); have n1_ := Aside0.mk (below_step (by repeat (first | (with_reducible first | exact HB.out | apply below_alloc | apply pw_below_drewN | apply below_drew1 | refine below_set ?_ GE273.out) | exact HB.out)) hb); have n2_ := Aside0.mk (hbox); have n3_ := Aside0.mk ((by rw [hg]; exact (below_size (by repeat (first | (with_reducible first | exact HB.out | apply below_alloc | apply pw_below_drewN | apply below_drew1 | refine below_set ?_ GE273.out) | exact HB.out))) : w.heap.size ≤ gb274)); have n4_ := Aside0.mk ((by rw [hg]; exact (below_size (by repeat (first | (with_reducible first | exact HB.out | apply below_alloc | apply pw_below_drewN | apply below_drew1 | refine below_set ?_ GE273.out) | exact HB.out))) : w.heap.size ≤ gb274)); have n5_ := Aside0.mk ((by rw [hg]; exact Nat.ne_of_lt (blk_lt (g := gb273) (o := .cells #[.int .i64 a0_0, .int .i64 a0_1, .slice A0_2 l0_2.length c0_2] 26 (0, 0)) (by (with_reducible repeat (first | refine blk_drewN ?_ _ | refine blk_drew ?_ | refine blk_alloc ?_ _)); exact BK273.out)) : gb273 ≠ gb274)); have n6_ := Aside0.mk ((by rw [hg]; exact Nat.ne_of_gt (blk_lt (g := gb273) (o := .cells #[.int .i64 a0_0, .int .i64 a0_1, .slice A0_2 l0_2.length c0_2] 26 (0, 0)) (by (with_reducible repeat (first | refine blk_drewN ?_ _ | refine blk_drew ?_ | refine blk_alloc ?_ _)); exact BK273.out)) : gb274 ≠ gb273)); clear BK273; clear HB; have BK273 := n0_; have HB := n1_; have BK274 := n2_; have GW274 := n3_; have GE274 := n4_; have NB273_274 := n5_; have NB274_273 := n6_; clear n0_ n1_ n2_ n3_ n4_ n5_ n6_; clear hb hbox hg; have hnb7 := NB273_274.out; have hnc7 := NB274_273.out; have hcz8_0 : w6.cell? ⟨gb273, 0, none⟩ = some (.int .i64 a0_0) := (blk_cell BK273.out 0).trans rfl; have hcz8_1 : w6.cell? ⟨gb273, 1, none⟩ = some (.int .i64 a0_1) := (blk_cell BK273.out 1).trans rfl; have hcz8_2 : w6.cell? ⟨gb273, 2, none⟩ = some (.slice A0_2 l0_2.length c0_2) := (blk_cell BK273.out 2).trans rfl; have hfz8_0 := blk_frozen BK273.out 0; have hfz8_1 := blk_frozen BK273.out 1; have hfz8_2 := blk_frozen BK273.out 2) | ((with_reducible refine gate_callee (f := 15) rfl ?_); refine goesL_ (some 12) rfl rfl Try.func15 (by kernel_rfl) rfl #[.agg #[.int .i64 a0_0, .int .i64 a0_1, .slice A0_2 l0_2.length c0_2], .int .i64 1048576] rfl (by (try simp only [List.map_toArray, List.map_cons, List.map_nil]); first | done | rfl | (simp only [List.length_drop, List.length_take]; rfl)) ?_; (with_reducible refine (laws_szMesh.calls a0_0 a0_1 _ _ l0_2 1048576 t275 _ ?side1 ?side2 A3.out).mono ?_); (case side1 => repeat (first | exact (Kd.C_below HR0_2.out HB.out) | (with_reducible refine Kd.C_alloc ?_ _) | (with_reducible refine Kd.C_drewN ?_ _) | (with_reducible refine Kd.C_drew ?_))); (case side2 => exact HC0_2.out); rintro e w9 ⟨rfl, hb⟩; refine ⟨_, rfl, ?_⟩; have n0_ := Aside0.mk (blk_below (g := gb273) (o := .cells #[.int .i64 a0_0, .int .i64 a0_1, .slice A0_2 l0_2.length c0_2] 26 (0, 0)) (by (with_reducible repeat (first | refine blk_drewN ?_ _ | refine blk_drew ?_ | refine blk_alloc ?_ _)); exact BK273.out) hb); have n1_ := Aside0.mk (blk_below (g := gb274) (o := .cells #[.slice A1_0 l1_0.length c1_0] 28 (0, 0)) (by (with_reducible repeat (first | refine blk_drewN ?_ _ | refine blk_drew ?_ | refine blk_alloc ?_ _)); exact BK274.out) hb); have n2_ := Aside0.mk (below_step (by repeat (first | (with_reducible first | exact HB.out | apply below_alloc | apply pw_below_drewN | apply below_drew1 | refine below_set ?_ GE273.out | refine below_set ?_ GE274.out) | exact HB.out)) hb); clear BK273; clear BK274; clear HB; have BK273 := n0_; have BK274 := n1_; have HB := n2_; clear n0_ n1_ n2_; (try clear hb); (try clear hb2); (try clear hk); (try clear hi)))
    go_ret
    exact ⟨by first | rfl | (simp [errW_none, errW_some] <;> rfl) | (simp [*, errW_none, errW_some] <;> rfl), by repeat (first | (with_reducible first | exact HB.out | apply below_alloc | apply pw_below_drewN | apply below_drew1 | refine below_set ?_ GE273.out | refine below_set ?_ GE274.out) | exact HB.out)⟩
  · rw [if_neg c4] at H
    have c4b0 : decide (t275 < 0) = false := decide_eq_false c4
    clear c4
    replace H := Option.bind_eq_some_iff.mp H
    obtain ⟨t276, A100, H⟩ := H
    replace H : (if t276 < 0 then (some true) else ((laws_toMesh.f k a0_0 a0_1 l0_2).bind fun bt277 => ((laws_toTable.f k l1_0).bind fun t282 => ((spec_LongestWalk.f k bt277.1 bt277.2.1 bt277.2.2 t282).bind fun t285 => ((laws_toMesh.f k a0_0 a0_1 l0_2).bind fun bt286 => ((laws_toTable.f k l1_0).bind fun t292 => ((impl_LongestWalk.f k bt286.1 bt286.2.1 bt286.2.2 t292).bind fun t296 => (if t296 = t285 then ((laws_toMesh.f k a0_0 a0_1 l0_2).bind fun bt297 => ((laws_eqMesh.f k bt286.1 bt286.2.1 bt286.2.2 bt297.1 bt297.2.1 bt297.2.2).bind fun t302 => (if t302 = true then ((laws_toTable.f k l1_0).bind fun t303 => ((laws_eqTable.f k t292 t303).bind fun t306 => (if t306 = true then (some true) else (some false)))) else (some false)))) else (some false))))))))) = some r := H
    have A10 := Aside0.mk A100
    clear A100
    by_cases c11 : t276 < 0
    · rw [if_pos c11] at H
      have c11b0 : decide (t276 < 0) = true := decide_eq_true c11
      clear c11
      obtain rfl := Option.some.inj H
      go_enter Try.func4, Try.ntmps4
      go_wp2_with (first | ((with_reducible refine gate_dst (N := 2) rfl ?_); refine box_event ?hg (N := 2) ?hd (cs := #[.int .i64 a0_0, .int .i64 a0_1, .slice A0_2 l0_2.length c0_2]) (t := 26) ?hr ?_; (case hd => rfl); (case hg => rfl); (case hr => first | (go_simp; done) | (go_simp; rfl)); intro gb273 hg w12 hbox hb; have n0_ := Aside0.mk (below_step (by repeat (first | (with_reducible first | exact HB.out | apply below_alloc | apply pw_below_drewN | apply below_drew1) | exact HB.out)) hb); have n1_ := Aside0.mk (hbox); have n2_ := Aside0.mk ((by rw [hg]; exact (below_size (by repeat (first | (with_reducible first | exact HB.out | apply below_alloc | apply pw_below_drewN | apply below_drew1) | exact HB.out))) : w.heap.size ≤ gb273)); have n3_ := Aside0.mk ((by rw [hg]; exact (below_size (by repeat (first | (with_reducible first | exact HB.out | apply below_alloc | apply pw_below_drewN | apply below_drew1) | exact HB.out))) : w.heap.size ≤ gb273)); clear HB; have HB := n0_; have BK273 := n1_; have GW273 := n2_; have GE273 := n3_; clear n0_ n1_ n2_ n3_; clear hb hbox hg) | ((with_reducible refine gate_dst (N := 3) rfl ?_); refine box_event ?hg (N := 3) ?hd (cs := #[.slice A1_0 l1_0.length c1_0]) (t := 28) ?hr ?_; (case hd => rfl); (case hg => rfl); (case hr => first | (go_simp; done) | (go_simp; rfl)); intro gb274 hg w13 hbox hb; have n0_ := Aside0.mk (blk_below (g := gb273) (o := .cells #[.int .i64 a0_0, .int .i64 a0_1, .slice A0_2 l0_2.length c0_2] 26 (0, 0)) (by (with_reducible repeat (first | refine blk_drewN ?_ _ | refine blk_drew ?_ | refine blk_alloc ?_ _)); exact BK273.out) hb); have n1_ := Aside0.mk (below_step (by repeat (first | (with_reducible first | exact HB.out | apply below_alloc | apply pw_below_drewN | apply below_drew1 | refine below_set ?_ GE273.out) | exact HB.out)) hb); have n2_ := Aside0.mk (hbox); have n3_ := Aside0.mk ((by rw [hg]; exact (below_size (by repeat (first | (with_reducible first | exact HB.out | apply below_alloc | apply pw_below_drewN | apply below_drew1 | refine below_set ?_ GE273.out) | exact HB.out))) : w.heap.size ≤ gb274)); have n4_ := Aside0.mk ((by rw [hg]; exact (below_size (by repeat (first | (with_reducible first | exact HB.out | apply below_alloc | apply pw_below_drewN | apply below_drew1 | refine below_set ?_ GE273.out) | exact HB.out))) : w.heap.size ≤ gb274)); have n5_ := Aside0.mk ((by rw [hg]; exact Nat.ne_of_lt (blk_lt (g := gb273) (o := .cells #[.int .i64 a0_0, .int .i64 a0_1, .slice A0_2 l0_2.length c0_2] 26 (0, 0)) (by (with_reducible repeat (first | refine blk_drewN ?_ _ | refine blk_drew ?_ | refine blk_alloc ?_ _)); exact BK273.out)) : gb273 ≠ gb274)); have n6_ := Aside0.mk ((by rw [hg]; exact Nat.ne_of_gt (blk_lt (g := gb273) (o := .cells #[.int .i64 a0_0, .int .i64 a0_1, .slice A0_2 l0_2.length c0_2] 26 (0, 0)) (by (with_reducible repeat (first | refine blk_drewN ?_ _ | refine blk_drew ?_ | refine blk_alloc ?_ _)); exact BK273.out)) : gb274 ≠ gb273)); clear BK273; clear HB; have BK273 := n0_; have HB := n1_; have BK274 := n2_; have GW274 := n3_; have GE274 := n4_; have NB273_274 := n5_; have NB274_273 := n6_; clear n0_ n1_ n2_ n3_ n4_ n5_ n6_; clear hb hbox hg; have hnb14 := NB273_274.out; have hnc14 := NB274_273.out; have hcz15_0 : w13.cell? ⟨gb273, 0, none⟩ = some (.int .i64 a0_0) := (blk_cell BK273.out 0).trans rfl; have hcz15_1 : w13.cell? ⟨gb273, 1, none⟩ = some (.int .i64 a0_1) := (blk_cell BK273.out 1).trans rfl; have hcz15_2 : w13.cell? ⟨gb273, 2, none⟩ = some (.slice A0_2 l0_2.length c0_2) := (blk_cell BK273.out 2).trans rfl; have hfz15_0 := blk_frozen BK273.out 0; have hfz15_1 := blk_frozen BK273.out 1; have hfz15_2 := blk_frozen BK273.out 2) | ((with_reducible refine gate_callee (f := 15) rfl ?_); refine goesL_ (some 12) rfl rfl Try.func15 (by kernel_rfl) rfl #[.agg #[.int .i64 a0_0, .int .i64 a0_1, .slice A0_2 l0_2.length c0_2], .int .i64 1048576] rfl (by (try simp only [List.map_toArray, List.map_cons, List.map_nil]); first | done | rfl | (simp only [List.length_drop, List.length_take]; rfl)) ?_; (with_reducible refine (laws_szMesh.calls a0_0 a0_1 _ _ l0_2 1048576 t275 _ ?side1 ?side2 A3.out).mono ?_); (case side1 => repeat (first | exact (Kd.C_below HR0_2.out HB.out) | (with_reducible refine Kd.C_alloc ?_ _) | (with_reducible refine Kd.C_drewN ?_ _) | (with_reducible refine Kd.C_drew ?_))); (case side2 => exact HC0_2.out); rintro e w16 ⟨rfl, hb⟩; refine ⟨_, rfl, ?_⟩; have n0_ := Aside0.mk (blk_below (g := gb273) (o := .cells #[.int .i64 a0_0, .int .i64 a0_1, .slice A0_2 l0_2.length c0_2] 26 (0, 0)) (by (with_reducible repeat (first | refine blk_drewN ?_ _ | refine blk_drew ?_ | refine blk_alloc ?_ _)); exact BK273.out) hb); have n1_ := Aside0.mk (blk_below (g := gb274) (o := .cells #[.slice A1_0 l1_0.length c1_0] 28 (0, 0)) (by (with_reducible repeat (first | refine blk_drewN ?_ _ | refine blk_drew ?_ | refine blk_alloc ?_ _)); exact BK274.out) hb); have n2_ := Aside0.mk (below_step (by repeat (first | (with_reducible first | exact HB.out | apply below_alloc | apply pw_below_drewN | apply below_drew1 | refine below_set ?_ GE273.out | refine below_set ?_ GE274.out) | exact HB.out)) hb); clear BK273; clear BK274; clear HB; have BK273 := n0_; have BK274 := n1_; have HB := n2_; clear n0_ n1_ n2_; (try clear hb); (try clear hb2); (try clear hk); (try clear hi); have hcz17_0 : w16.cell? ⟨gb274, 0, none⟩ = some (.slice A1_0 l1_0.length c1_0) := (blk_cell BK274.out 0).trans rfl; have hfz17_0 := blk_frozen BK274.out 0) | ((with_reducible refine gate_callee (f := 16) rfl ?_); refine goesL_ (some 17) rfl rfl Try.func16 (by kernel_rfl) rfl #[.agg #[.slice A1_0 l1_0.length c1_0], .int .i64 t275] rfl (by (try simp only [List.map_toArray, List.map_cons, List.map_nil]); first | done | rfl | (simp only [List.length_drop, List.length_take]; rfl)) ?_; (with_reducible refine (laws_szTable.calls _ _ l1_0 t275 t276 _ ?side1 ?side2 A10.out).mono ?_); (case side1 => repeat (first | exact (Kd.C_below HR1_0.out HB.out) | (with_reducible refine Kd.C_alloc ?_ _) | (with_reducible refine Kd.C_drewN ?_ _) | (with_reducible refine Kd.C_drew ?_))); (case side2 => exact HC1_0.out); rintro e w18 ⟨rfl, hb⟩; refine ⟨_, rfl, ?_⟩; have n0_ := Aside0.mk (blk_below (g := gb273) (o := .cells #[.int .i64 a0_0, .int .i64 a0_1, .slice A0_2 l0_2.length c0_2] 26 (0, 0)) (by (with_reducible repeat (first | refine blk_drewN ?_ _ | refine blk_drew ?_ | refine blk_alloc ?_ _)); exact BK273.out) hb); have n1_ := Aside0.mk (blk_below (g := gb274) (o := .cells #[.slice A1_0 l1_0.length c1_0] 28 (0, 0)) (by (with_reducible repeat (first | refine blk_drewN ?_ _ | refine blk_drew ?_ | refine blk_alloc ?_ _)); exact BK274.out) hb); have n2_ := Aside0.mk (below_step (by repeat (first | (with_reducible first | exact HB.out | apply below_alloc | apply pw_below_drewN | apply below_drew1 | refine below_set ?_ GE273.out | refine below_set ?_ GE274.out) | exact HB.out)) hb); clear BK273; clear BK274; clear HB; have BK273 := n0_; have BK274 := n1_; have HB := n2_; clear n0_ n1_ n2_; (try clear hb); (try clear hb2); (try clear hk); (try clear hi)))
      go_ret
      exact ⟨by first | rfl | (simp [errW_none, errW_some] <;> rfl) | (simp [*, errW_none, errW_some] <;> rfl), by repeat (first | (with_reducible first | exact HB.out | apply below_alloc | apply pw_below_drewN | apply below_drew1 | refine below_set ?_ GE273.out | refine below_set ?_ GE274.out) | exact HB.out)⟩
    · rw [if_neg c11] at H
      have c11b0 : decide (t276 < 0) = false := decide_eq_false c11
      clear c11
      replace H := Option.bind_eq_some_iff.mp H
      obtain ⟨⟨t277, t278, t279⟩, A190, H⟩ := H
      replace H : ((laws_toTable.f k l1_0).bind fun t282 => ((spec_LongestWalk.f k t277 t278 t279 t282).bind fun t285 => ((laws_toMesh.f k a0_0 a0_1 l0_2).bind fun bt286 => ((laws_toTable.f k l1_0).bind fun t292 => ((impl_LongestWalk.f k bt286.1 bt286.2.1 bt286.2.2 t292).bind fun t296 => (if t296 = t285 then ((laws_toMesh.f k a0_0 a0_1 l0_2).bind fun bt297 => ((laws_eqMesh.f k bt286.1 bt286.2.1 bt286.2.2 bt297.1 bt297.2.1 bt297.2.2).bind fun t302 => (if t302 = true then ((laws_toTable.f k l1_0).bind fun t303 => ((laws_eqTable.f k t292 t303).bind fun t306 => (if t306 = true then (some true) else (some false)))) else (some false)))) else (some false))))))) = some r := H
      have A19 := Aside0.mk A190
      clear A190
      replace H := Option.bind_eq_some_iff.mp H
      obtain ⟨t282, A200, H⟩ := H
      replace H : ((spec_LongestWalk.f k t277 t278 t279 t282).bind fun t285 => ((laws_toMesh.f k a0_0 a0_1 l0_2).bind fun bt286 => ((laws_toTable.f k l1_0).bind fun t292 => ((impl_LongestWalk.f k bt286.1 bt286.2.1 bt286.2.2 t292).bind fun t296 => (if t296 = t285 then ((laws_toMesh.f k a0_0 a0_1 l0_2).bind fun bt297 => ((laws_eqMesh.f k bt286.1 bt286.2.1 bt286.2.2 bt297.1 bt297.2.1 bt297.2.2).bind fun t302 => (if t302 = true then ((laws_toTable.f k l1_0).bind fun t303 => ((laws_eqTable.f k t292 t303).bind fun t306 => (if t306 = true then (some true) else (some false)))) else (some false)))) else (some false)))))) = some r := H
      have A20 := Aside0.mk A200
      clear A200
      replace H := Option.bind_eq_some_iff.mp H
      obtain ⟨t285, A210, H⟩ := H
      replace H : ((laws_toMesh.f k a0_0 a0_1 l0_2).bind fun bt286 => ((laws_toTable.f k l1_0).bind fun t292 => ((impl_LongestWalk.f k bt286.1 bt286.2.1 bt286.2.2 t292).bind fun t296 => (if t296 = t285 then ((laws_toMesh.f k a0_0 a0_1 l0_2).bind fun bt297 => ((laws_eqMesh.f k bt286.1 bt286.2.1 bt286.2.2 bt297.1 bt297.2.1 bt297.2.2).bind fun t302 => (if t302 = true then ((laws_toTable.f k l1_0).bind fun t303 => ((laws_eqTable.f k t292 t303).bind fun t306 => (if t306 = true then (some true) else (some false)))) else (some false)))) else (some false))))) = some r := H
      have A21 := Aside0.mk A210
      clear A210
      replace H := Option.bind_eq_some_iff.mp H
      obtain ⟨⟨t286, t287, t288⟩, A220, H⟩ := H
      replace H : ((laws_toTable.f k l1_0).bind fun t292 => ((impl_LongestWalk.f k t286 t287 t288 t292).bind fun t296 => (if t296 = t285 then ((laws_toMesh.f k a0_0 a0_1 l0_2).bind fun bt297 => ((laws_eqMesh.f k t286 t287 t288 bt297.1 bt297.2.1 bt297.2.2).bind fun t302 => (if t302 = true then ((laws_toTable.f k l1_0).bind fun t303 => ((laws_eqTable.f k t292 t303).bind fun t306 => (if t306 = true then (some true) else (some false)))) else (some false)))) else (some false)))) = some r := H
      have A22 := Aside0.mk A220
      clear A220
      replace H := Option.bind_eq_some_iff.mp H
      obtain ⟨t292, A230, H⟩ := H
      replace H : ((impl_LongestWalk.f k t286 t287 t288 t292).bind fun t296 => (if t296 = t285 then ((laws_toMesh.f k a0_0 a0_1 l0_2).bind fun bt297 => ((laws_eqMesh.f k t286 t287 t288 bt297.1 bt297.2.1 bt297.2.2).bind fun t302 => (if t302 = true then ((laws_toTable.f k l1_0).bind fun t303 => ((laws_eqTable.f k t292 t303).bind fun t306 => (if t306 = true then (some true) else (some false)))) else (some false)))) else (some false))) = some r := H
      have A23 := Aside0.mk A230
      clear A230
      replace H := Option.bind_eq_some_iff.mp H
      obtain ⟨t296, A240, H⟩ := H
      replace H : (if t296 = t285 then ((laws_toMesh.f k a0_0 a0_1 l0_2).bind fun bt297 => ((laws_eqMesh.f k t286 t287 t288 bt297.1 bt297.2.1 bt297.2.2).bind fun t302 => (if t302 = true then ((laws_toTable.f k l1_0).bind fun t303 => ((laws_eqTable.f k t292 t303).bind fun t306 => (if t306 = true then (some true) else (some false)))) else (some false)))) else (some false)) = some r := H
      have A24 := Aside0.mk A240
      clear A240
      by_cases c25 : t296 = t285
      · rw [if_pos c25] at H
        have c25b0 : (t296 == t285) = true := beq_iff_eq.mpr c25
        have c25b1 : (t296 != t285) = false := bne_eq_false_iff_eq.mpr c25
        clear c25
        replace H := Option.bind_eq_some_iff.mp H
        obtain ⟨⟨t297, t298, t299⟩, A260, H⟩ := H
        replace H : ((laws_eqMesh.f k t286 t287 t288 t297 t298 t299).bind fun t302 => (if t302 = true then ((laws_toTable.f k l1_0).bind fun t303 => ((laws_eqTable.f k t292 t303).bind fun t306 => (if t306 = true then (some true) else (some false)))) else (some false))) = some r := H
        have A26 := Aside0.mk A260
        clear A260
        replace H := Option.bind_eq_some_iff.mp H
        obtain ⟨t302, A270, H⟩ := H
        replace H : (if t302 = true then ((laws_toTable.f k l1_0).bind fun t303 => ((laws_eqTable.f k t292 t303).bind fun t306 => (if t306 = true then (some true) else (some false)))) else (some false)) = some r := H
        have A27 := Aside0.mk A270
        clear A270
        by_cases c28 : t302 = true
        · subst c28
          have H1 : ((laws_toTable.f k l1_0).bind fun t303 => ((laws_eqTable.f k t292 t303).bind fun t306 => (if t306 = true then (some true) else (some false)))) = some r := by rw [if_pos rfl] at H; exact H
          clear H
          have H := H1
          clear H1
          replace H := Option.bind_eq_some_iff.mp H
          obtain ⟨t303, A290, H⟩ := H
          replace H : ((laws_eqTable.f k t292 t303).bind fun t306 => (if t306 = true then (some true) else (some false))) = some r := H
          have A29 := Aside0.mk A290
          clear A290
          replace H := Option.bind_eq_some_iff.mp H
          obtain ⟨t306, A300, H⟩ := H
          replace H : (if t306 = true then (some true) else (some false)) = some r := H
          have A30 := Aside0.mk A300
          clear A300
          by_cases c31 : t306 = true
          · subst c31
            have H1 : (some true) = some r := by rw [if_pos rfl] at H; exact H
            clear H
            have H := H1
            clear H1
            obtain rfl := Option.some.inj H
            go_enter Try.func4, Try.ntmps4
            try go_wp2_with (first | ((with_reducible refine gate_dst (N := 2) rfl ?_); refine box_event ?hg (N := 2) ?hd (cs := #[.int .i64 a0_0, .int .i64 a0_1, .slice A0_2 l0_2.length c0_2]) (t := 26) ?hr ?_; (case hd => rfl); (case hg => rfl); (case hr => first | (go_simp; done) | (go_simp; rfl)); intro gb273 hg w32 hbox hb; have n0_ := Aside0.mk (below_step (by repeat (first | (with_reducible first | exact HB.out | apply below_alloc | apply pw_below_drewN | apply below_drew1) | exact HB.out)) hb); have n1_ := Aside0.mk (hbox); have n2_ := Aside0.mk ((by rw [hg]; exact (below_size (by repeat (first | (with_reducible first | exact HB.out | apply below_alloc | apply pw_below_drewN | apply below_drew1) | exact HB.out))) : w.heap.size ≤ gb273)); have n3_ := Aside0.mk ((by rw [hg]; exact (below_size (by repeat (first | (with_reducible first | exact HB.out | apply below_alloc | apply pw_below_drewN | apply below_drew1) | exact HB.out))) : w.heap.size ≤ gb273)); clear HB; have HB := n0_; have BK273 := n1_; have GW273 := n2_; have GE273 := n3_; clear n0_ n1_ n2_ n3_; clear hb hbox hg) | ((with_reducible refine gate_dst (N := 3) rfl ?_); refine box_event ?hg (N := 3) ?hd (cs := #[.slice A1_0 l1_0.length c1_0]) (t := 28) ?hr ?_; (case hd => rfl); (case hg => rfl); (case hr => first | (go_simp; done) | (go_simp; rfl)); intro gb274 hg w33 hbox hb; have n0_ := Aside0.mk (blk_below (g := gb273) (o := .cells #[.int .i64 a0_0, .int .i64 a0_1, .slice A0_2 l0_2.length c0_2] 26 (0, 0)) (by (with_reducible repeat (first | refine blk_drewN ?_ _ | refine blk_drew ?_ | refine blk_alloc ?_ _)); exact BK273.out) hb); have n1_ := Aside0.mk (below_step (by repeat (first | (with_reducible first | exact HB.out | apply below_alloc | apply pw_below_drewN | apply below_drew1 | refine below_set ?_ GE273.out) | exact HB.out)) hb); have n2_ := Aside0.mk (hbox); have n3_ := Aside0.mk ((by rw [hg]; exact (below_size (by repeat (first | (with_reducible first | exact HB.out | apply below_alloc | apply pw_below_drewN | apply below_drew1 | refine below_set ?_ GE273.out) | exact HB.out))) : w.heap.size ≤ gb274)); have n4_ := Aside0.mk ((by rw [hg]; exact (below_size (by repeat (first | (with_reducible first | exact HB.out | apply below_alloc | apply pw_below_drewN | apply below_drew1 | refine below_set ?_ GE273.out) | exact HB.out))) : w.heap.size ≤ gb274)); have n5_ := Aside0.mk ((by rw [hg]; exact Nat.ne_of_lt (blk_lt (g := gb273) (o := .cells #[.int .i64 a0_0, .int .i64 a0_1, .slice A0_2 l0_2.length c0_2] 26 (0, 0)) (by (with_reducible repeat (first | refine blk_drewN ?_ _ | refine blk_drew ?_ | refine blk_alloc ?_ _)); exact BK273.out)) : gb273 ≠ gb274)); have n6_ := Aside0.mk ((by rw [hg]; exact Nat.ne_of_gt (blk_lt (g := gb273) (o := .cells #[.int .i64 a0_0, .int .i64 a0_1, .slice A0_2 l0_2.length c0_2] 26 (0, 0)) (by (with_reducible repeat (first | refine blk_drewN ?_ _ | refine blk_drew ?_ | refine blk_alloc ?_ _)); exact BK273.out)) : gb274 ≠ gb273)); clear BK273; clear HB; have BK273 := n0_; have HB := n1_; have BK274 := n2_; have GW274 := n3_; have GE274 := n4_; have NB273_274 := n5_; have NB274_273 := n6_; clear n0_ n1_ n2_ n3_ n4_ n5_ n6_; clear hb hbox hg; have hnb34 := NB273_274.out; have hnc34 := NB274_273.out; have hcz35_0 : w33.cell? ⟨gb273, 0, none⟩ = some (.int .i64 a0_0) := (blk_cell BK273.out 0).trans rfl; have hcz35_1 : w33.cell? ⟨gb273, 1, none⟩ = some (.int .i64 a0_1) := (blk_cell BK273.out 1).trans rfl; have hcz35_2 : w33.cell? ⟨gb273, 2, none⟩ = some (.slice A0_2 l0_2.length c0_2) := (blk_cell BK273.out 2).trans rfl; have hfz35_0 := blk_frozen BK273.out 0; have hfz35_1 := blk_frozen BK273.out 1; have hfz35_2 := blk_frozen BK273.out 2) | ((with_reducible refine gate_callee (f := 15) rfl ?_); refine goesL_ (some 12) rfl rfl Try.func15 (by kernel_rfl) rfl #[.agg #[.int .i64 a0_0, .int .i64 a0_1, .slice A0_2 l0_2.length c0_2], .int .i64 1048576] rfl (by (try simp only [List.map_toArray, List.map_cons, List.map_nil]); first | done | rfl | (simp only [List.length_drop, List.length_take]; rfl)) ?_; (with_reducible refine (laws_szMesh.calls a0_0 a0_1 _ _ l0_2 1048576 t275 _ ?side1 ?side2 A3.out).mono ?_); (case side1 => repeat (first | exact (Kd.C_below HR0_2.out HB.out) | (with_reducible refine Kd.C_alloc ?_ _) | (with_reducible refine Kd.C_drewN ?_ _) | (with_reducible refine Kd.C_drew ?_))); (case side2 => exact HC0_2.out); rintro e w36 ⟨rfl, hb⟩; refine ⟨_, rfl, ?_⟩; have n0_ := Aside0.mk (blk_below (g := gb273) (o := .cells #[.int .i64 a0_0, .int .i64 a0_1, .slice A0_2 l0_2.length c0_2] 26 (0, 0)) (by (with_reducible repeat (first | refine blk_drewN ?_ _ | refine blk_drew ?_ | refine blk_alloc ?_ _)); exact BK273.out) hb); have n1_ := Aside0.mk (blk_below (g := gb274) (o := .cells #[.slice A1_0 l1_0.length c1_0] 28 (0, 0)) (by (with_reducible repeat (first | refine blk_drewN ?_ _ | refine blk_drew ?_ | refine blk_alloc ?_ _)); exact BK274.out) hb); have n2_ := Aside0.mk (below_step (by repeat (first | (with_reducible first | exact HB.out | apply below_alloc | apply pw_below_drewN | apply below_drew1 | refine below_set ?_ GE273.out | refine below_set ?_ GE274.out) | exact HB.out)) hb); clear BK273; clear BK274; clear HB; have BK273 := n0_; have BK274 := n1_; have HB := n2_; clear n0_ n1_ n2_; (try clear hb); (try clear hb2); (try clear hk); (try clear hi); have hcz37_0 : w36.cell? ⟨gb274, 0, none⟩ = some (.slice A1_0 l1_0.length c1_0) := (blk_cell BK274.out 0).trans rfl; have hfz37_0 := blk_frozen BK274.out 0) | ((with_reducible refine gate_callee (f := 16) rfl ?_); refine goesL_ (some 17) rfl rfl Try.func16 (by kernel_rfl) rfl #[.agg #[.slice A1_0 l1_0.length c1_0], .int .i64 t275] rfl (by (try simp only [List.map_toArray, List.map_cons, List.map_nil]); first | done | rfl | (simp only [List.length_drop, List.length_take]; rfl)) ?_; (with_reducible refine (laws_szTable.calls _ _ l1_0 t275 t276 _ ?side1 ?side2 A10.out).mono ?_); (case side1 => repeat (first | exact (Kd.C_below HR1_0.out HB.out) | (with_reducible refine Kd.C_alloc ?_ _) | (with_reducible refine Kd.C_drewN ?_ _) | (with_reducible refine Kd.C_drew ?_))); (case side2 => exact HC1_0.out); rintro e w38 ⟨rfl, hb⟩; refine ⟨_, rfl, ?_⟩; have n0_ := Aside0.mk (blk_below (g := gb273) (o := .cells #[.int .i64 a0_0, .int .i64 a0_1, .slice A0_2 l0_2.length c0_2] 26 (0, 0)) (by (with_reducible repeat (first | refine blk_drewN ?_ _ | refine blk_drew ?_ | refine blk_alloc ?_ _)); exact BK273.out) hb); have n1_ := Aside0.mk (blk_below (g := gb274) (o := .cells #[.slice A1_0 l1_0.length c1_0] 28 (0, 0)) (by (with_reducible repeat (first | refine blk_drewN ?_ _ | refine blk_drew ?_ | refine blk_alloc ?_ _)); exact BK274.out) hb); have n2_ := Aside0.mk (below_step (by repeat (first | (with_reducible first | exact HB.out | apply below_alloc | apply pw_below_drewN | apply below_drew1 | refine below_set ?_ GE273.out | refine below_set ?_ GE274.out) | exact HB.out)) hb); clear BK273; clear BK274; clear HB; have BK273 := n0_; have BK274 := n1_; have HB := n2_; clear n0_ n1_ n2_; (try clear hb); (try clear hb2); (try clear hk); (try clear hi)))
            have n0_ := Aside0.mk (blk_drew BK273.out)
            have n1_ := Aside0.mk (blk_drew BK274.out)
            have n2_ := Aside0.mk (below_drew1 HB.out)
            clear BK273
            clear BK274
            clear HB
            have BK273 := n0_
            have BK274 := n1_
            have HB := n2_
            clear n0_ n1_ n2_
            refine start_ (n := 6) (S := fun w' => w'.cell? ⟨gb273, 0, none⟩ = some (.int .i64 a0_0) ∧ w'.cell? ⟨gb273, 1, none⟩ = some (.int .i64 a0_1) ∧ w'.cell? ⟨gb273, 2, none⟩ = some (.slice A0_2 l0_2.length c0_2) ∧ w'.cell? ⟨gb274, 0, none⟩ = some (.slice A1_0 l1_0.length c1_0)) (ds := []) #[false, false, false, false, false, false] (by kernel_rfl) rfl rfl ⟨(blk_cell BK273.out 0).trans rfl, (blk_cell BK273.out 1).trans rfl, (blk_cell BK273.out 2).trans rfl, (blk_cell BK274.out 0).trans rfl⟩ (fun hHeld => ?_)
            generalize w38.drew = w39 at BK273 BK274 HB hHeld ⊢
            refine take_ (i := 0) (N := some 20) (v := ?_) (a' := ?_) #[true, false, false, false, false, false] rfl rfl (by kernel_rfl) (fun _ _ _ h => h) (Or.inl ⟨by rfl, ?_⟩) hHeld ?_ ?_
            rotate_left
            · rintro w' ⟨s0, s1, s2, s3⟩
              go_simp
              with_reducible rfl
            rotate_left
            · simp only [Act.put, List.setIfInBounds_toArray, List.set_cons_zero, List.set_cons_succ, i64_w, i32_w]
              rfl
            refine take_ (i := 2) (N := some 22) (v := ?_) (a' := ?_) #[true, false, true, false, false, false] rfl rfl (by kernel_rfl) (fun _ _ _ h => h) (Or.inl ⟨by rfl, ?_⟩) hHeld ?_ ?_
            rotate_left
            · rintro w' ⟨s0, s1, s2, s3⟩
              go_simp
              with_reducible rfl
            rotate_left
            · simp only [Act.put, List.setIfInBounds_toArray, List.set_cons_zero, List.set_cons_succ, i64_w, i32_w]
              rfl
            refine one_ (i := 1) (N := some 21) #[true, true, true, false, false, false] rfl rfl (by kernel_rfl) (by decide) (fun K hK => ?_)
            refine goes_ Try.func18 (by kernel_rfl) rfl #[.agg #[.int .i64 a0_0, .int .i64 a0_1, .slice A0_2 l0_2.length c0_2]] (by rfl) rfl rfl (by (try simp only [List.map_toArray, List.map_cons, List.map_nil]); first | done | rfl | (simp only [List.length_drop, List.length_take]; rfl)) ?_
            with_reducible refine (laws_toMesh.calls k a0_0 a0_1 _ _ l0_2 t277 t278 t279 _ ?side1 ?side2 A19.out).mono ?_
            (case side1 => repeat (first | exact (Kd.C_below HR0_2.out HB.out) | (with_reducible refine Kd.C_alloc ?_ _) | (with_reducible refine Kd.C_drewN ?_ _) | (with_reducible refine Kd.C_drew ?_)))
            (case side2 => exact HC0_2.out)
            rintro e w40 ⟨v280, rfl, ho0, hb⟩
            refine ⟨_, rfl, ?_⟩
            have n0_ := Aside0.mk (Kd.R_lower ho0 (below_size (by repeat (first | (with_reducible first | exact HB.out | apply below_alloc | apply pw_below_drewN | apply below_drew1 | refine below_set ?_ GE273.out | refine below_set ?_ GE274.out) | exact HB.out))))
            have n1_ := Aside0.mk (blk_below (g := gb273) (o := .cells #[.int .i64 a0_0, .int .i64 a0_1, .slice A0_2 l0_2.length c0_2] 26 (0, 0)) (by (with_reducible repeat (first | refine blk_drewN ?_ _ | refine blk_drew ?_ | refine blk_alloc ?_ _)); exact BK273.out) hb)
            have n2_ := Aside0.mk (blk_below (g := gb274) (o := .cells #[.slice A1_0 l1_0.length c1_0] 28 (0, 0)) (by (with_reducible repeat (first | refine blk_drewN ?_ _ | refine blk_drew ?_ | refine blk_alloc ?_ _)); exact BK274.out) hb)
            have n3_ := Aside0.mk (below_step (by repeat (first | (with_reducible first | exact HB.out | apply below_alloc | apply pw_below_drewN | apply below_drew1 | refine below_set ?_ GE273.out | refine below_set ?_ GE274.out) | exact HB.out)) hb)
            clear BK273
            clear BK274
            clear HB
            have HO281 := n0_
            have BK273 := n1_
            have BK274 := n2_
            have HB := n3_
            clear n0_ n1_ n2_ n3_
            (try clear hb)
            (try clear hb2)
            (try clear hk)
            (try clear hi)
            (try clear ho0)
            refine hK.out _ _ ⟨(blk_cell BK273.out 0).trans rfl, (blk_cell BK273.out 1).trans rfl, (blk_cell BK273.out 2).trans rfl, (blk_cell BK274.out 0).trans rfl⟩ (fun hHeld => ?_)
            clear hK K
            refine norm_ (a' := ?_) ?_ ?_
            rotate_left
            · show Act.put _ (some 21) _ = _
              simp only [Act.put, List.setIfInBounds_toArray, List.set_cons_zero, List.set_cons_succ, i64_w, i32_w]
              rfl
            refine one_ (i := 3) (N := some 23) #[true, true, true, true, false, false] rfl rfl (by kernel_rfl) (by decide) (fun K hK => ?_)
            refine goes_ Try.func19 (by kernel_rfl) rfl #[.agg #[.slice A1_0 l1_0.length c1_0]] (by rfl) rfl rfl (by (try simp only [List.map_toArray, List.map_cons, List.map_nil]); first | done | rfl | (simp only [List.length_drop, List.length_take]; rfl)) ?_
            with_reducible refine (laws_toTable.calls k _ _ l1_0 t282 _ ?side1 ?side2 A20.out).mono ?_
            (case side1 => repeat (first | exact (Kd.C_below HR1_0.out HB.out) | (with_reducible refine Kd.C_alloc ?_ _) | (with_reducible refine Kd.C_drewN ?_ _) | (with_reducible refine Kd.C_drew ?_)))
            (case side2 => exact HC1_0.out)
            rintro e w41 ⟨v283, rfl, ho0, hb⟩
            refine ⟨_, rfl, ?_⟩
            have n0_ := Aside0.mk (Kd.R_elder' (by (with_reducible repeat (first | apply Kd.R_alloc | apply Kd.R_drewN | apply Kd.R_drew)); exact HO281.out) (Kd.R_base ho0) hb)
            have n1_ := Aside0.mk (Kd.R_lower (Kd.R_new' ho0 (Kd.R_lt (by (with_reducible repeat (first | apply Kd.R_alloc | apply Kd.R_drewN | apply Kd.R_drew)); exact HO281.out))) (below_size (by repeat (first | (with_reducible first | exact HB.out | apply below_alloc | apply pw_below_drewN | apply below_drew1 | refine below_set ?_ GE273.out | refine below_set ?_ GE274.out) | exact HB.out))))
            have n2_ := Aside0.mk (blk_below (g := gb273) (o := .cells #[.int .i64 a0_0, .int .i64 a0_1, .slice A0_2 l0_2.length c0_2] 26 (0, 0)) (by (with_reducible repeat (first | refine blk_drewN ?_ _ | refine blk_drew ?_ | refine blk_alloc ?_ _)); exact BK273.out) hb)
            have n3_ := Aside0.mk (blk_below (g := gb274) (o := .cells #[.slice A1_0 l1_0.length c1_0] 28 (0, 0)) (by (with_reducible repeat (first | refine blk_drewN ?_ _ | refine blk_drew ?_ | refine blk_alloc ?_ _)); exact BK274.out) hb)
            have n4_ := Aside0.mk (below_step (by repeat (first | (with_reducible first | exact HB.out | apply below_alloc | apply pw_below_drewN | apply below_drew1 | refine below_set ?_ GE273.out | refine below_set ?_ GE274.out) | exact HB.out)) hb)
            clear HO281
            clear BK273
            clear BK274
            clear HB
            have HO281 := n0_
            have HO284 := n1_
            have BK273 := n2_
            have BK274 := n3_
            have HB := n4_
            clear n0_ n1_ n2_ n3_ n4_
            (try clear hb)
            (try clear hb2)
            (try clear hk)
            (try clear hi)
            (try clear ho0)
            obtain ⟨Ao42, co42, eo42⟩ := Kd.R_slice HO281.out
            (first | subst eo42 | (injection eo42 with f1_ f2_ f3_; have f4_ := f1_.symm; have f5_ := f3_.symm; clear f1_ f2_ f3_; subst f4_; subst f5_))
            obtain ⟨Ao43, co43, eo43⟩ := Kd.R_slice HO284.out
            (first | subst eo43 | (injection eo43 with f1_ f2_ f3_; have f4_ := f1_.symm; have f5_ := f3_.symm; clear f1_ f2_ f3_; subst f4_; subst f5_))
            refine hK.out _ _ ⟨(blk_cell BK273.out 0).trans rfl, (blk_cell BK273.out 1).trans rfl, (blk_cell BK273.out 2).trans rfl, (blk_cell BK274.out 0).trans rfl⟩ (fun hHeld => ?_)
            clear hK K
            refine norm_ (a' := ?_) ?_ ?_
            rotate_left
            · show Act.put _ (some 23) _ = _
              simp only [Act.put, List.setIfInBounds_toArray, List.set_cons_zero, List.set_cons_succ, i64_w, i32_w]
              rfl
            refine one_ (i := 4) (N := some 24) #[true, true, true, true, true, false] rfl rfl (by kernel_rfl) (by decide) (fun K hK => ?_)
            refine goes_ Try.func23 (by kernel_rfl) rfl #[.agg #[.int .i64 t277, .int .i64 t278, .slice Ao42 t279.length co42], .agg #[.slice Ao43 t282.length co43]] (by rfl) rfl rfl (by (try simp only [List.map_toArray, List.map_cons, List.map_nil]); first | done | rfl | (simp only [List.length_drop, List.length_take]; rfl)) ?_
            with_reducible refine (spec_LongestWalk.calls k t277 t278 _ _ t279 _ _ t282 t285 _ ?side1 ?side2 ?side3 ?side4 A21.out).mono ?_
            (case side1 => repeat (first | exact (Kd.R_reads' HO281.out).2.2 | (with_reducible refine Kd.C_alloc ?_ _) | (with_reducible refine Kd.C_drewN ?_ _) | (with_reducible refine Kd.C_drew ?_)))
            (case side2 => exact (Kd.R_reads' HO281.out).2.1)
            (case side3 => repeat (first | exact (Kd.R_reads' HO284.out).2.2 | (with_reducible refine Kd.C_alloc ?_ _) | (with_reducible refine Kd.C_drewN ?_ _) | (with_reducible refine Kd.C_drew ?_)))
            (case side4 => exact (Kd.R_reads' HO284.out).2.1)
            rintro e w44 ⟨rfl, hb⟩
            refine ⟨_, rfl, ?_⟩
            have n0_ := Aside0.mk (Kd.R_below (by (with_reducible repeat (first | apply Kd.R_alloc | apply Kd.R_drewN | apply Kd.R_drew)); exact HO281.out) hb)
            have n1_ := Aside0.mk (Kd.R_below (by (with_reducible repeat (first | apply Kd.R_alloc | apply Kd.R_drewN | apply Kd.R_drew)); exact HO284.out) hb)
            have n2_ := Aside0.mk (blk_below (g := gb273) (o := .cells #[.int .i64 a0_0, .int .i64 a0_1, .slice A0_2 l0_2.length c0_2] 26 (0, 0)) (by (with_reducible repeat (first | refine blk_drewN ?_ _ | refine blk_drew ?_ | refine blk_alloc ?_ _)); exact BK273.out) hb)
            have n3_ := Aside0.mk (blk_below (g := gb274) (o := .cells #[.slice A1_0 l1_0.length c1_0] 28 (0, 0)) (by (with_reducible repeat (first | refine blk_drewN ?_ _ | refine blk_drew ?_ | refine blk_alloc ?_ _)); exact BK274.out) hb)
            have n4_ := Aside0.mk (below_step (by repeat (first | (with_reducible first | exact HB.out | apply below_alloc | apply pw_below_drewN | apply below_drew1 | refine below_set ?_ GE273.out | refine below_set ?_ GE274.out) | exact HB.out)) hb)
            clear HO281
            clear HO284
            clear BK273
            clear BK274
            clear HB
            have HO281 := n0_
            have HO284 := n1_
            have BK273 := n2_
            have BK274 := n3_
            have HB := n4_
            clear n0_ n1_ n2_ n3_ n4_
            (try clear hb)
            (try clear hb2)
            (try clear hk)
            (try clear hi)
            refine hK.out _ _ ⟨(blk_cell BK273.out 0).trans rfl, (blk_cell BK273.out 1).trans rfl, (blk_cell BK273.out 2).trans rfl, (blk_cell BK274.out 0).trans rfl⟩ (fun hHeld => ?_)
            clear hK K
            refine norm_ (a' := ?_) ?_ ?_
            rotate_left
            · show Act.put _ (some 24) _ = _
              simp only [Act.put, List.setIfInBounds_toArray, List.set_cons_zero, List.set_cons_succ, i64_w, i32_w]
              rfl
            refine pure_ (i := 5) (N := some 6) (v := ?_) (a' := ?_) #[true, true, true, true, true, true] rfl rfl (by kernel_rfl) (fun _ _ _ h => h) (Or.inl ⟨by rfl, ?_⟩) ?_ ?_
            rotate_left
            · intro w'
              go_simp
              with_reducible rfl
            rotate_left
            · simp only [Act.put, List.setIfInBounds_toArray, List.set_cons_zero, List.set_cons_succ, i64_w, i32_w]
              rfl
            refine done_ (by kernel_rfl) ?_
            have hcz45_0 : w44.cell? ⟨gb273, 0, none⟩ = some (.int .i64 a0_0) := (blk_cell BK273.out 0).trans rfl
            have hcz45_1 : w44.cell? ⟨gb273, 1, none⟩ = some (.int .i64 a0_1) := (blk_cell BK273.out 1).trans rfl
            have hcz45_2 : w44.cell? ⟨gb273, 2, none⟩ = some (.slice A0_2 l0_2.length c0_2) := (blk_cell BK273.out 2).trans rfl
            have hfz45_0 := blk_frozen BK273.out 0
            have hfz45_1 := blk_frozen BK273.out 1
            have hfz45_2 := blk_frozen BK273.out 2
            try go_wp2_with (first | ((with_reducible refine gate_callee (f := 18) rfl ?_); refine goesL_ (some 26) rfl rfl Try.func18 (by kernel_rfl) rfl #[.agg #[.int .i64 a0_0, .int .i64 a0_1, .slice A0_2 l0_2.length c0_2]] rfl (by (try simp only [List.map_toArray, List.map_cons, List.map_nil]); first | done | rfl | (simp only [List.length_drop, List.length_take]; rfl)) ?_; (with_reducible refine (laws_toMesh.calls k a0_0 a0_1 _ _ l0_2 t286 t287 t288 _ ?side1 ?side2 A22.out).mono ?_); (case side1 => repeat (first | exact (Kd.C_below HR0_2.out HB.out) | (with_reducible refine Kd.C_alloc ?_ _) | (with_reducible refine Kd.C_drewN ?_ _) | (with_reducible refine Kd.C_drew ?_))); (case side2 => exact HC0_2.out); rintro e w46 ⟨v289, rfl, ho0, hb⟩; refine ⟨_, rfl, ?_⟩; have n0_ := Aside0.mk (Kd.R_elder' (by (with_reducible repeat (first | apply Kd.R_alloc | apply Kd.R_drewN | apply Kd.R_drew)); exact HO281.out) (Kd.R_base ho0) hb); have n1_ := Aside0.mk (Kd.R_elder' (by (with_reducible repeat (first | apply Kd.R_alloc | apply Kd.R_drewN | apply Kd.R_drew)); exact HO284.out) (Kd.R_base ho0) hb); have n2_ := Aside0.mk (Kd.R_lower (Kd.R_new' (Kd.R_new' ho0 (Kd.R_lt (by (with_reducible repeat (first | apply Kd.R_alloc | apply Kd.R_drewN | apply Kd.R_drew)); exact HO281.out))) (Kd.R_lt (by (with_reducible repeat (first | apply Kd.R_alloc | apply Kd.R_drewN | apply Kd.R_drew)); exact HO284.out))) (below_size (by repeat (first | (with_reducible first | exact HB.out | apply below_alloc | apply pw_below_drewN | apply below_drew1 | refine below_set ?_ GE273.out | refine below_set ?_ GE274.out) | exact HB.out)))); have n3_ := Aside0.mk (blk_below (g := gb273) (o := .cells #[.int .i64 a0_0, .int .i64 a0_1, .slice A0_2 l0_2.length c0_2] 26 (0, 0)) (by (with_reducible repeat (first | refine blk_drewN ?_ _ | refine blk_drew ?_ | refine blk_alloc ?_ _)); exact BK273.out) hb); have n4_ := Aside0.mk (blk_below (g := gb274) (o := .cells #[.slice A1_0 l1_0.length c1_0] 28 (0, 0)) (by (with_reducible repeat (first | refine blk_drewN ?_ _ | refine blk_drew ?_ | refine blk_alloc ?_ _)); exact BK274.out) hb); have n5_ := Aside0.mk (below_step (by repeat (first | (with_reducible first | exact HB.out | apply below_alloc | apply pw_below_drewN | apply below_drew1 | refine below_set ?_ GE273.out | refine below_set ?_ GE274.out) | exact HB.out)) hb); clear HO281; clear HO284; clear BK273; clear BK274; clear HB; have HO281 := n0_; have HO284 := n1_; have HO290 := n2_; have BK273 := n3_; have BK274 := n4_; have HB := n5_; clear n0_ n1_ n2_ n3_ n4_ n5_; (try clear hb); (try clear hb2); (try clear hk); (try clear hi); (try clear ho0)) | ((with_reducible refine gate_dst (N := 7) rfl ?_); refine box_event ?hg (N := 7) ?hd (cs := #[.int .i64 0, .int .i64 0, .slice none 0 0]) (t := 34) ?hr ?_; (case hd => rfl); (case hg => rfl); (case hr => first | (go_simp; done) | (go_simp; rfl)); intro gb291 hg w47 hbox hb; have n0_ := Aside0.mk (Kd.R_below (by (with_reducible repeat (first | apply Kd.R_alloc | apply Kd.R_drewN | apply Kd.R_drew)); exact HO281.out) hb); have n1_ := Aside0.mk (Kd.R_below (by (with_reducible repeat (first | apply Kd.R_alloc | apply Kd.R_drewN | apply Kd.R_drew)); exact HO284.out) hb); have n2_ := Aside0.mk (Kd.R_below (by (with_reducible repeat (first | apply Kd.R_alloc | apply Kd.R_drewN | apply Kd.R_drew)); exact HO290.out) hb); have n3_ := Aside0.mk (blk_below (g := gb273) (o := .cells #[.int .i64 a0_0, .int .i64 a0_1, .slice A0_2 l0_2.length c0_2] 26 (0, 0)) (by (with_reducible repeat (first | refine blk_drewN ?_ _ | refine blk_drew ?_ | refine blk_alloc ?_ _)); exact BK273.out) hb); have n4_ := Aside0.mk (blk_below (g := gb274) (o := .cells #[.slice A1_0 l1_0.length c1_0] 28 (0, 0)) (by (with_reducible repeat (first | refine blk_drewN ?_ _ | refine blk_drew ?_ | refine blk_alloc ?_ _)); exact BK274.out) hb); have n5_ := Aside0.mk (below_step (by repeat (first | (with_reducible first | exact HB.out | apply below_alloc | apply pw_below_drewN | apply below_drew1 | refine below_set ?_ GE273.out | refine below_set ?_ GE274.out) | exact HB.out)) hb); have n6_ := Aside0.mk (hbox); have n7_ := Aside0.mk ((by rw [hg]; exact (below_size (by repeat (first | (with_reducible first | exact HB.out | apply below_alloc | apply pw_below_drewN | apply below_drew1 | refine below_set ?_ GE273.out | refine below_set ?_ GE274.out) | exact HB.out))) : w.heap.size ≤ gb291)); have n8_ := Aside0.mk ((by rw [hg]; exact (below_size (by repeat (first | (with_reducible first | exact HB.out | apply below_alloc | apply pw_below_drewN | apply below_drew1 | refine below_set ?_ GE273.out | refine below_set ?_ GE274.out) | exact HB.out))) : w.heap.size ≤ gb291)); have n9_ := Aside0.mk ((by rw [hg]; exact Nat.ne_of_lt (blk_lt (g := gb273) (o := .cells #[.int .i64 a0_0, .int .i64 a0_1, .slice A0_2 l0_2.length c0_2] 26 (0, 0)) (by (with_reducible repeat (first | refine blk_drewN ?_ _ | refine blk_drew ?_ | refine blk_alloc ?_ _)); exact BK273.out)) : gb273 ≠ gb291)); have n10_ := Aside0.mk ((by rw [hg]; exact Nat.ne_of_gt (blk_lt (g := gb273) (o := .cells #[.int .i64 a0_0, .int .i64 a0_1, .slice A0_2 l0_2.length c0_2] 26 (0, 0)) (by (with_reducible repeat (first | refine blk_drewN ?_ _ | refine blk_drew ?_ | refine blk_alloc ?_ _)); exact BK273.out)) : gb291 ≠ gb273)); have n11_ := Aside0.mk ((by rw [hg]; exact Nat.ne_of_lt (blk_lt (g := gb274) (o := .cells #[.slice A1_0 l1_0.length c1_0] 28 (0, 0)) (by (with_reducible repeat (first | refine blk_drewN ?_ _ | refine blk_drew ?_ | refine blk_alloc ?_ _)); exact BK274.out)) : gb274 ≠ gb291)); have n12_ := Aside0.mk ((by rw [hg]; exact Nat.ne_of_gt (blk_lt (g := gb274) (o := .cells #[.slice A1_0 l1_0.length c1_0] 28 (0, 0)) (by (with_reducible repeat (first | refine blk_drewN ?_ _ | refine blk_drew ?_ | refine blk_alloc ?_ _)); exact BK274.out)) : gb291 ≠ gb274)); clear HO281; clear HO284; clear HO290; clear BK273; clear BK274; clear HB; have HO281 := n0_; have HO284 := n1_; have HO290 := n2_; have BK273 := n3_; have BK274 := n4_; have HB := n5_; have BK291 := n6_; have GW291 := n7_; have GE291 := n8_; have NB273_291 := n9_; have NB291_273 := n10_; have NB274_291 := n11_; have NB291_274 := n12_; clear n0_ n1_ n2_ n3_ n4_ n5_ n6_ n7_ n8_ n9_ n10_ n11_ n12_; clear hb hbox hg; have hnb48 := NB291_273.out; have hnc48 := NB273_291.out; have hnb49 := NB291_274.out; have hnc49 := NB274_291.out; have hcz50_0 : w47.cell? ⟨gb291, 0, none⟩ = some (.int .i64 0) := (blk_cell BK291.out 0).trans rfl; have hcz50_1 : w47.cell? ⟨gb291, 1, none⟩ = some (.int .i64 0) := (blk_cell BK291.out 1).trans rfl; have hcz50_2 : w47.cell? ⟨gb291, 2, none⟩ = some (.slice none 0 0) := (blk_cell BK291.out 2).trans rfl; have hfz50_0 := blk_frozen BK291.out 0; have hfz50_1 := blk_frozen BK291.out 1; have hfz50_2 := blk_frozen BK291.out 2; obtain ⟨Ao51, co51, eo51⟩ := Kd.R_slice HO290.out; subst eo51; have hcz52_0 : w47.cell? ⟨gb274, 0, none⟩ = some (.slice A1_0 l1_0.length c1_0) := (blk_cell BK274.out 0).trans rfl; have hfz52_0 := blk_frozen BK274.out 0) | ((with_reducible refine gate_callee (f := 19) rfl ?_); refine goesL_ (some 28) rfl rfl Try.func19 (by kernel_rfl) rfl #[.agg #[.slice A1_0 l1_0.length c1_0]] rfl (by (try simp only [List.map_toArray, List.map_cons, List.map_nil]); first | done | rfl | (simp only [List.length_drop, List.length_take]; rfl)) ?_; (with_reducible refine (laws_toTable.calls k _ _ l1_0 t292 _ ?side1 ?side2 A23.out).mono ?_); (case side1 => exact Kd.C_below HR1_0.out (by repeat (first | (with_reducible first | exact HB.out | apply below_alloc | apply pw_below_drewN | apply below_drew1 | refine below_set ?_ GE273.out | refine below_set ?_ GE274.out | refine below_set ?_ GE291.out) | exact HB.out))); (case side2 => exact HC1_0.out); rintro e w53 ⟨v293, rfl, ho0, hb⟩; refine ⟨_, rfl, ?_⟩; have n0_ := Aside0.mk (Kd.R_elder' (by (with_reducible repeat (first | apply Kd.R_alloc | apply Kd.R_drewN | apply Kd.R_drew)); exact (Kd.R_mono (Kd.R_far (p := ⟨gb291, 2, none⟩) (Kd.R_far (p := ⟨gb291, 1, none⟩) (Kd.R_far (p := ⟨gb291, 0, none⟩) (Kd.R_types HO281.out BK291.out (by decide)) (fun _ hk => hk.2) (.int .i64 t286)) (fun _ hk => hk.2) (.int .i64 t287)) (fun _ hk => hk.2) (.slice Ao51 t288.length co51)) (fun _ h_ => h_.1))) (Kd.R_base ho0) hb); have n1_ := Aside0.mk (Kd.R_elder' (by (with_reducible repeat (first | apply Kd.R_alloc | apply Kd.R_drewN | apply Kd.R_drew)); exact (Kd.R_mono (Kd.R_far (p := ⟨gb291, 2, none⟩) (Kd.R_far (p := ⟨gb291, 1, none⟩) (Kd.R_far (p := ⟨gb291, 0, none⟩) (Kd.R_types HO284.out BK291.out (by decide)) (fun _ hk => hk.2) (.int .i64 t286)) (fun _ hk => hk.2) (.int .i64 t287)) (fun _ hk => hk.2) (.slice Ao51 t288.length co51)) (fun _ h_ => h_.1))) (Kd.R_base ho0) hb); have n2_ := Aside0.mk (Kd.R_elder' (by (with_reducible repeat (first | apply Kd.R_alloc | apply Kd.R_drewN | apply Kd.R_drew)); exact (Kd.R_mono (Kd.R_far (p := ⟨gb291, 2, none⟩) (Kd.R_far (p := ⟨gb291, 1, none⟩) (Kd.R_far (p := ⟨gb291, 0, none⟩) (Kd.R_types HO290.out BK291.out (by decide)) (fun _ hk => hk.2) (.int .i64 t286)) (fun _ hk => hk.2) (.int .i64 t287)) (fun _ hk => hk.2) (.slice Ao51 t288.length co51)) (fun _ h_ => h_.1))) (Kd.R_base ho0) hb); have n3_ := Aside0.mk (Kd.R_lower (Kd.R_new' (Kd.R_new' (Kd.R_new' ho0 (Kd.R_lt (by (with_reducible repeat (first | apply Kd.R_alloc | apply Kd.R_drewN | apply Kd.R_drew)); exact (Kd.R_mono (Kd.R_far (p := ⟨gb291, 2, none⟩) (Kd.R_far (p := ⟨gb291, 1, none⟩) (Kd.R_far (p := ⟨gb291, 0, none⟩) (Kd.R_types HO281.out BK291.out (by decide)) (fun _ hk => hk.2) (.int .i64 t286)) (fun _ hk => hk.2) (.int .i64 t287)) (fun _ hk => hk.2) (.slice Ao51 t288.length co51)) (fun _ h_ => h_.1))))) (Kd.R_lt (by (with_reducible repeat (first | apply Kd.R_alloc | apply Kd.R_drewN | apply Kd.R_drew)); exact (Kd.R_mono (Kd.R_far (p := ⟨gb291, 2, none⟩) (Kd.R_far (p := ⟨gb291, 1, none⟩) (Kd.R_far (p := ⟨gb291, 0, none⟩) (Kd.R_types HO284.out BK291.out (by decide)) (fun _ hk => hk.2) (.int .i64 t286)) (fun _ hk => hk.2) (.int .i64 t287)) (fun _ hk => hk.2) (.slice Ao51 t288.length co51)) (fun _ h_ => h_.1))))) (Kd.R_lt (by (with_reducible repeat (first | apply Kd.R_alloc | apply Kd.R_drewN | apply Kd.R_drew)); exact (Kd.R_mono (Kd.R_far (p := ⟨gb291, 2, none⟩) (Kd.R_far (p := ⟨gb291, 1, none⟩) (Kd.R_far (p := ⟨gb291, 0, none⟩) (Kd.R_types HO290.out BK291.out (by decide)) (fun _ hk => hk.2) (.int .i64 t286)) (fun _ hk => hk.2) (.int .i64 t287)) (fun _ hk => hk.2) (.slice Ao51 t288.length co51)) (fun _ h_ => h_.1))))) (below_size (by repeat (first | (with_reducible first | exact HB.out | apply below_alloc | apply pw_below_drewN | apply below_drew1 | refine below_set ?_ GE273.out | refine below_set ?_ GE274.out | refine below_set ?_ GE291.out) | exact HB.out)))); have n4_ := Aside0.mk (blk_below (g := gb273) (o := .cells #[.int .i64 a0_0, .int .i64 a0_1, .slice A0_2 l0_2.length c0_2] 26 (0, 0)) (by (with_reducible repeat (first | refine blk_drewN ?_ _ | refine blk_drew ?_ | refine blk_alloc ?_ _)); refine blk_far ?_ NB273_291.out _; (with_reducible repeat (first | refine blk_drewN ?_ _ | refine blk_drew ?_ | refine blk_alloc ?_ _)); refine blk_far ?_ NB273_291.out _; (with_reducible repeat (first | refine blk_drewN ?_ _ | refine blk_drew ?_ | refine blk_alloc ?_ _)); refine blk_far ?_ NB273_291.out _; (with_reducible repeat (first | refine blk_drewN ?_ _ | refine blk_drew ?_ | refine blk_alloc ?_ _)); exact BK273.out) hb); have n5_ := Aside0.mk (blk_below (g := gb274) (o := .cells #[.slice A1_0 l1_0.length c1_0] 28 (0, 0)) (by (with_reducible repeat (first | refine blk_drewN ?_ _ | refine blk_drew ?_ | refine blk_alloc ?_ _)); refine blk_far ?_ NB274_291.out _; (with_reducible repeat (first | refine blk_drewN ?_ _ | refine blk_drew ?_ | refine blk_alloc ?_ _)); refine blk_far ?_ NB274_291.out _; (with_reducible repeat (first | refine blk_drewN ?_ _ | refine blk_drew ?_ | refine blk_alloc ?_ _)); refine blk_far ?_ NB274_291.out _; (with_reducible repeat (first | refine blk_drewN ?_ _ | refine blk_drew ?_ | refine blk_alloc ?_ _)); exact BK274.out) hb); have n6_ := Aside0.mk (blk_below (g := gb291) (o := .cells #[.int .i64 t286, .int .i64 t287, .slice Ao51 t288.length co51] 34 (0, 0)) (by (with_reducible repeat (first | refine blk_drewN ?_ _ | refine blk_drew ?_ | refine blk_alloc ?_ _)); refine blk_put (cs := #[.int .i64 t286, .int .i64 t287, .slice none 0 0]) ?_ 2 _ rfl; (with_reducible repeat (first | refine blk_drewN ?_ _ | refine blk_drew ?_ | refine blk_alloc ?_ _)); refine blk_put (cs := #[.int .i64 t286, .int .i64 0, .slice none 0 0]) ?_ 1 _ rfl; (with_reducible repeat (first | refine blk_drewN ?_ _ | refine blk_drew ?_ | refine blk_alloc ?_ _)); refine blk_put (cs := #[.int .i64 0, .int .i64 0, .slice none 0 0]) ?_ 0 _ rfl; (with_reducible repeat (first | refine blk_drewN ?_ _ | refine blk_drew ?_ | refine blk_alloc ?_ _)); exact BK291.out) hb); have n7_ := Aside0.mk (below_step (by repeat (first | (with_reducible first | exact HB.out | apply below_alloc | apply pw_below_drewN | apply below_drew1 | refine below_set ?_ GE273.out | refine below_set ?_ GE274.out | refine below_set ?_ GE291.out) | exact HB.out)) hb); clear HO281; clear HO284; clear HO290; clear BK273; clear BK274; clear BK291; clear HB; have HO281 := n0_; have HO284 := n1_; have HO290 := n2_; have HO294 := n3_; have BK273 := n4_; have BK274 := n5_; have BK291 := n6_; have HB := n7_; clear n0_ n1_ n2_ n3_ n4_ n5_ n6_ n7_; (try clear hb); (try clear hb2); (try clear hk); (try clear hi); (try clear ho0)) | ((with_reducible refine gate_dst (N := 8) rfl ?_); refine box_event ?hg (N := 8) ?hd (cs := #[.slice none 0 0]) (t := 36) ?hr ?_; (case hd => rfl); (case hg => rfl); (case hr => first | (go_simp; done) | (go_simp; rfl)); intro gb295 hg w54 hbox hb; have n0_ := Aside0.mk (Kd.R_below (by (with_reducible repeat (first | apply Kd.R_alloc | apply Kd.R_drewN | apply Kd.R_drew)); exact HO281.out) hb); have n1_ := Aside0.mk (Kd.R_below (by (with_reducible repeat (first | apply Kd.R_alloc | apply Kd.R_drewN | apply Kd.R_drew)); exact HO284.out) hb); have n2_ := Aside0.mk (Kd.R_below (by (with_reducible repeat (first | apply Kd.R_alloc | apply Kd.R_drewN | apply Kd.R_drew)); exact HO290.out) hb); have n3_ := Aside0.mk (Kd.R_below (by (with_reducible repeat (first | apply Kd.R_alloc | apply Kd.R_drewN | apply Kd.R_drew)); exact HO294.out) hb); have n4_ := Aside0.mk (blk_below (g := gb273) (o := .cells #[.int .i64 a0_0, .int .i64 a0_1, .slice A0_2 l0_2.length c0_2] 26 (0, 0)) (by (with_reducible repeat (first | refine blk_drewN ?_ _ | refine blk_drew ?_ | refine blk_alloc ?_ _)); exact BK273.out) hb); have n5_ := Aside0.mk (blk_below (g := gb274) (o := .cells #[.slice A1_0 l1_0.length c1_0] 28 (0, 0)) (by (with_reducible repeat (first | refine blk_drewN ?_ _ | refine blk_drew ?_ | refine blk_alloc ?_ _)); exact BK274.out) hb); have n6_ := Aside0.mk (blk_below (g := gb291) (o := .cells #[.int .i64 t286, .int .i64 t287, .slice Ao51 t288.length co51] 34 (0, 0)) (by (with_reducible repeat (first | refine blk_drewN ?_ _ | refine blk_drew ?_ | refine blk_alloc ?_ _)); exact BK291.out) hb); have n7_ := Aside0.mk (below_step (by repeat (first | (with_reducible first | exact HB.out | apply below_alloc | apply pw_below_drewN | apply below_drew1 | refine below_set ?_ GE273.out | refine below_set ?_ GE274.out | refine below_set ?_ GE291.out) | exact HB.out)) hb); have n8_ := Aside0.mk (hbox); have n9_ := Aside0.mk ((by rw [hg]; exact (below_size (by repeat (first | (with_reducible first | exact HB.out | apply below_alloc | apply pw_below_drewN | apply below_drew1 | refine below_set ?_ GE273.out | refine below_set ?_ GE274.out | refine below_set ?_ GE291.out) | exact HB.out))) : w.heap.size ≤ gb295)); have n10_ := Aside0.mk ((by rw [hg]; exact (below_size (by repeat (first | (with_reducible first | exact HB.out | apply below_alloc | apply pw_below_drewN | apply below_drew1 | refine below_set ?_ GE273.out | refine below_set ?_ GE274.out | refine below_set ?_ GE291.out) | exact HB.out))) : w.heap.size ≤ gb295)); have n11_ := Aside0.mk ((by rw [hg]; exact Nat.ne_of_lt (blk_lt (g := gb273) (o := .cells #[.int .i64 a0_0, .int .i64 a0_1, .slice A0_2 l0_2.length c0_2] 26 (0, 0)) (by (with_reducible repeat (first | refine blk_drewN ?_ _ | refine blk_drew ?_ | refine blk_alloc ?_ _)); exact BK273.out)) : gb273 ≠ gb295)); have n12_ := Aside0.mk ((by rw [hg]; exact Nat.ne_of_gt (blk_lt (g := gb273) (o := .cells #[.int .i64 a0_0, .int .i64 a0_1, .slice A0_2 l0_2.length c0_2] 26 (0, 0)) (by (with_reducible repeat (first | refine blk_drewN ?_ _ | refine blk_drew ?_ | refine blk_alloc ?_ _)); exact BK273.out)) : gb295 ≠ gb273)); have n13_ := Aside0.mk ((by rw [hg]; exact Nat.ne_of_lt (blk_lt (g := gb274) (o := .cells #[.slice A1_0 l1_0.length c1_0] 28 (0, 0)) (by (with_reducible repeat (first | refine blk_drewN ?_ _ | refine blk_drew ?_ | refine blk_alloc ?_ _)); exact BK274.out)) : gb274 ≠ gb295)); have n14_ := Aside0.mk ((by rw [hg]; exact Nat.ne_of_gt (blk_lt (g := gb274) (o := .cells #[.slice A1_0 l1_0.length c1_0] 28 (0, 0)) (by (with_reducible repeat (first | refine blk_drewN ?_ _ | refine blk_drew ?_ | refine blk_alloc ?_ _)); exact BK274.out)) : gb295 ≠ gb274)); have n15_ := Aside0.mk ((by rw [hg]; exact Nat.ne_of_lt (blk_lt (g := gb291) (o := .cells #[.int .i64 t286, .int .i64 t287, .slice Ao51 t288.length co51] 34 (0, 0)) (by (with_reducible repeat (first | refine blk_drewN ?_ _ | refine blk_drew ?_ | refine blk_alloc ?_ _)); exact BK291.out)) : gb291 ≠ gb295)); have n16_ := Aside0.mk ((by rw [hg]; exact Nat.ne_of_gt (blk_lt (g := gb291) (o := .cells #[.int .i64 t286, .int .i64 t287, .slice Ao51 t288.length co51] 34 (0, 0)) (by (with_reducible repeat (first | refine blk_drewN ?_ _ | refine blk_drew ?_ | refine blk_alloc ?_ _)); exact BK291.out)) : gb295 ≠ gb291)); clear HO281; clear HO284; clear HO290; clear HO294; clear BK273; clear BK274; clear BK291; clear HB; have HO281 := n0_; have HO284 := n1_; have HO290 := n2_; have HO294 := n3_; have BK273 := n4_; have BK274 := n5_; have BK291 := n6_; have HB := n7_; have BK295 := n8_; have GW295 := n9_; have GE295 := n10_; have NB273_295 := n11_; have NB295_273 := n12_; have NB274_295 := n13_; have NB295_274 := n14_; have NB291_295 := n15_; have NB295_291 := n16_; clear n0_ n1_ n2_ n3_ n4_ n5_ n6_ n7_ n8_ n9_ n10_ n11_ n12_ n13_ n14_ n15_ n16_; clear hb hbox hg; obtain ⟨Ao55, co55, eo55⟩ := Kd.R_slice HO294.out; subst eo55; have hnb56 := NB295_273.out; have hnc56 := NB273_295.out; have hnb57 := NB295_274.out; have hnc57 := NB274_295.out; have hnb58 := NB295_291.out; have hnc58 := NB291_295.out; have hcz59_0 : w54.cell? ⟨gb295, 0, none⟩ = some (.slice none 0 0) := (blk_cell BK295.out 0).trans rfl; have hfz59_0 := blk_frozen BK295.out 0; have hcz60_0 : w54.cell? ⟨gb291, 0, none⟩ = some (.int .i64 t286) := (blk_cell BK291.out 0).trans rfl; have hcz60_1 : w54.cell? ⟨gb291, 1, none⟩ = some (.int .i64 t287) := (blk_cell BK291.out 1).trans rfl; have hcz60_2 : w54.cell? ⟨gb291, 2, none⟩ = some (.slice Ao51 t288.length co51) := (blk_cell BK291.out 2).trans rfl; have hfz60_0 := blk_frozen BK291.out 0; have hfz60_1 := blk_frozen BK291.out 1; have hfz60_2 := blk_frozen BK291.out 2) | ((with_reducible refine gate_callee (f := 24) rfl ?_); refine goesL_ (some 31) rfl rfl Try.func24 (by kernel_rfl) rfl #[.agg #[.int .i64 t286, .int .i64 t287, .slice Ao51 t288.length co51], .agg #[.slice Ao55 t292.length co55]] rfl (by (try simp only [List.map_toArray, List.map_cons, List.map_nil]); first | done | rfl | (simp only [List.length_drop, List.length_take]; rfl)) ?_; (with_reducible refine (impl_LongestWalk.calls k t286 t287 _ _ t288 _ _ t292 t296 _ ?side1 ?side2 ?side3 ?side4 A24.out).mono ?_); (case side1 => refine (Kd.R_reads' (e := 3) (base := w.heap.size) (ok := fun k_ => (((True ∧ some k_ ≠ (.slice Ao42 t279.length co42 : Value).ownBlock) ∧ some k_ ≠ (.slice Ao43 t282.length co43 : Value).ownBlock) ∧ some k_ ≠ (.slice Ao55 t292.length co55 : Value).ownBlock)) (n := t288.length) (c := co51) ?_).2.2; exact (by (with_reducible repeat (first | apply Kd.R_alloc | apply Kd.R_drewN | apply Kd.R_drew)); exact (Kd.R_mono (Kd.R_far (p := ⟨gb295, 0, none⟩) (Kd.R_types HO290.out BK295.out (by decide)) (fun _ hk => hk.2) (.slice Ao55 t292.length co55)) (fun _ h_ => h_.1)))); (case side2 => exact (Kd.R_reads' HO290.out).2.1); (case side3 => refine (Kd.R_reads' (e := 3) (base := w.heap.size) (ok := fun k_ => (((True ∧ some k_ ≠ (.slice Ao42 t279.length co42 : Value).ownBlock) ∧ some k_ ≠ (.slice Ao43 t282.length co43 : Value).ownBlock) ∧ some k_ ≠ (.slice Ao51 t288.length co51 : Value).ownBlock)) (n := t292.length) (c := co55) ?_).2.2; exact (by (with_reducible repeat (first | apply Kd.R_alloc | apply Kd.R_drewN | apply Kd.R_drew)); exact (Kd.R_mono (Kd.R_far (p := ⟨gb295, 0, none⟩) (Kd.R_types HO294.out BK295.out (by decide)) (fun _ hk => hk.2) (.slice Ao55 t292.length co55)) (fun _ h_ => h_.1)))); (case side4 => exact (Kd.R_reads' HO294.out).2.1); rintro e w61 ⟨rfl, hb⟩; refine ⟨_, rfl, ?_⟩; have n0_ := Aside0.mk (Kd.R_below (by (with_reducible repeat (first | apply Kd.R_alloc | apply Kd.R_drewN | apply Kd.R_drew)); exact (Kd.R_mono (Kd.R_far (p := ⟨gb295, 0, none⟩) (Kd.R_types HO281.out BK295.out (by decide)) (fun _ hk => hk.2) (.slice Ao55 t292.length co55)) (fun _ h_ => h_.1))) hb); have n1_ := Aside0.mk (Kd.R_below (by (with_reducible repeat (first | apply Kd.R_alloc | apply Kd.R_drewN | apply Kd.R_drew)); exact (Kd.R_mono (Kd.R_far (p := ⟨gb295, 0, none⟩) (Kd.R_types HO284.out BK295.out (by decide)) (fun _ hk => hk.2) (.slice Ao55 t292.length co55)) (fun _ h_ => h_.1))) hb); have n2_ := Aside0.mk (Kd.R_below (by (with_reducible repeat (first | apply Kd.R_alloc | apply Kd.R_drewN | apply Kd.R_drew)); exact (Kd.R_mono (Kd.R_far (p := ⟨gb295, 0, none⟩) (Kd.R_types HO290.out BK295.out (by decide)) (fun _ hk => hk.2) (.slice Ao55 t292.length co55)) (fun _ h_ => h_.1))) hb); have n3_ := Aside0.mk (Kd.R_below (by (with_reducible repeat (first | apply Kd.R_alloc | apply Kd.R_drewN | apply Kd.R_drew)); exact (Kd.R_mono (Kd.R_far (p := ⟨gb295, 0, none⟩) (Kd.R_types HO294.out BK295.out (by decide)) (fun _ hk => hk.2) (.slice Ao55 t292.length co55)) (fun _ h_ => h_.1))) hb); have n4_ := Aside0.mk (blk_below (g := gb273) (o := .cells #[.int .i64 a0_0, .int .i64 a0_1, .slice A0_2 l0_2.length c0_2] 26 (0, 0)) (by (with_reducible repeat (first | refine blk_drewN ?_ _ | refine blk_drew ?_ | refine blk_alloc ?_ _)); refine blk_far ?_ NB273_295.out _; (with_reducible repeat (first | refine blk_drewN ?_ _ | refine blk_drew ?_ | refine blk_alloc ?_ _)); exact BK273.out) hb); have n5_ := Aside0.mk (blk_below (g := gb274) (o := .cells #[.slice A1_0 l1_0.length c1_0] 28 (0, 0)) (by (with_reducible repeat (first | refine blk_drewN ?_ _ | refine blk_drew ?_ | refine blk_alloc ?_ _)); refine blk_far ?_ NB274_295.out _; (with_reducible repeat (first | refine blk_drewN ?_ _ | refine blk_drew ?_ | refine blk_alloc ?_ _)); exact BK274.out) hb); have n6_ := Aside0.mk (blk_below (g := gb291) (o := .cells #[.int .i64 t286, .int .i64 t287, .slice Ao51 t288.length co51] 34 (0, 0)) (by (with_reducible repeat (first | refine blk_drewN ?_ _ | refine blk_drew ?_ | refine blk_alloc ?_ _)); refine blk_far ?_ NB291_295.out _; (with_reducible repeat (first | refine blk_drewN ?_ _ | refine blk_drew ?_ | refine blk_alloc ?_ _)); exact BK291.out) hb); have n7_ := Aside0.mk (blk_below (g := gb295) (o := .cells #[.slice Ao55 t292.length co55] 36 (0, 0)) (by (with_reducible repeat (first | refine blk_drewN ?_ _ | refine blk_drew ?_ | refine blk_alloc ?_ _)); refine blk_put (cs := #[.slice none 0 0]) ?_ 0 _ rfl; (with_reducible repeat (first | refine blk_drewN ?_ _ | refine blk_drew ?_ | refine blk_alloc ?_ _)); exact BK295.out) hb); have n8_ := Aside0.mk (below_step (by repeat (first | (with_reducible first | exact HB.out | apply below_alloc | apply pw_below_drewN | apply below_drew1 | refine below_set ?_ GE273.out | refine below_set ?_ GE274.out | refine below_set ?_ GE291.out | refine below_set ?_ GE295.out) | exact HB.out)) hb); clear HO281; clear HO284; clear HO290; clear HO294; clear BK273; clear BK274; clear BK291; clear BK295; clear HB; have HO281 := n0_; have HO284 := n1_; have HO290 := n2_; have HO294 := n3_; have BK273 := n4_; have BK274 := n5_; have BK291 := n6_; have BK295 := n7_; have HB := n8_; clear n0_ n1_ n2_ n3_ n4_ n5_ n6_ n7_ n8_; (try clear hb); (try clear hb2); (try clear hk); (try clear hi)))
            have n0_ := Aside0.mk (Kd.R_drew HO281.out)
            have n1_ := Aside0.mk (Kd.R_drew HO284.out)
            have n2_ := Aside0.mk (Kd.R_drew HO290.out)
            have n3_ := Aside0.mk (Kd.R_drew HO294.out)
            have n4_ := Aside0.mk (blk_drew BK273.out)
            have n5_ := Aside0.mk (blk_drew BK274.out)
            have n6_ := Aside0.mk (blk_drew BK291.out)
            have n7_ := Aside0.mk (blk_drew BK295.out)
            have n8_ := Aside0.mk (below_drew1 HB.out)
            clear HO281
            clear HO284
            clear HO290
            clear HO294
            clear BK273
            clear BK274
            clear BK291
            clear BK295
            clear HB
            have HO281 := n0_
            have HO284 := n1_
            have HO290 := n2_
            have HO294 := n3_
            have BK273 := n4_
            have BK274 := n5_
            have BK291 := n6_
            have BK295 := n7_
            have HB := n8_
            clear n0_ n1_ n2_ n3_ n4_ n5_ n6_ n7_ n8_
            refine start_ (n := 5) (S := fun w' => w'.cell? ⟨gb291, 0, none⟩ = some (.int .i64 t286) ∧ w'.cell? ⟨gb291, 1, none⟩ = some (.int .i64 t287) ∧ w'.cell? ⟨gb291, 2, none⟩ = some (.slice Ao51 t288.length co51) ∧ w'.cell? ⟨gb273, 0, none⟩ = some (.int .i64 a0_0) ∧ w'.cell? ⟨gb273, 1, none⟩ = some (.int .i64 a0_1) ∧ w'.cell? ⟨gb273, 2, none⟩ = some (.slice A0_2 l0_2.length c0_2)) (ds := []) #[false, false, false, false, false] (by kernel_rfl) rfl rfl ⟨(blk_cell BK291.out 0).trans rfl, (blk_cell BK291.out 1).trans rfl, (blk_cell BK291.out 2).trans rfl, (blk_cell BK273.out 0).trans rfl, (blk_cell BK273.out 1).trans rfl, (blk_cell BK273.out 2).trans rfl⟩ (fun hHeld => ?_)
            generalize w61.drew = w62 at HO281 HO284 HO290 HO294 BK273 BK274 BK291 BK295 HB hHeld ⊢
            refine take_ (i := 0) (N := some 35) (v := ?_) (a' := ?_) #[true, false, false, false, false] rfl rfl (by kernel_rfl) (fun _ _ _ h => h) (Or.inl ⟨by rfl, ?_⟩) hHeld ?_ ?_
            rotate_left
            · rintro w' ⟨s0, s1, s2, s3, s4, s5⟩
              go_simp
              with_reducible rfl
            rotate_left
            · simp only [Act.put, List.setIfInBounds_toArray, List.set_cons_zero, List.set_cons_succ, i64_w, i32_w]
              rfl
            refine take_ (i := 1) (N := some 36) (v := ?_) (a' := ?_) #[true, true, false, false, false] rfl rfl (by kernel_rfl) (fun _ _ _ h => h) (Or.inl ⟨by rfl, ?_⟩) hHeld ?_ ?_
            rotate_left
            · rintro w' ⟨s0, s1, s2, s3, s4, s5⟩
              go_simp
              with_reducible rfl
            rotate_left
            · simp only [Act.put, List.setIfInBounds_toArray, List.set_cons_zero, List.set_cons_succ, i64_w, i32_w]
              rfl
            refine one_ (i := 2) (N := some 37) #[true, true, true, false, false] rfl rfl (by kernel_rfl) (by decide) (fun K hK => ?_)
            refine goes_ Try.func18 (by kernel_rfl) rfl #[.agg #[.int .i64 a0_0, .int .i64 a0_1, .slice A0_2 l0_2.length c0_2]] (by rfl) rfl rfl (by (try simp only [List.map_toArray, List.map_cons, List.map_nil]); first | done | rfl | (simp only [List.length_drop, List.length_take]; rfl)) ?_
            with_reducible refine (laws_toMesh.calls k a0_0 a0_1 _ _ l0_2 t297 t298 t299 _ ?side1 ?side2 A26.out).mono ?_
            (case side1 => repeat (first | exact (Kd.C_below HR0_2.out HB.out) | (with_reducible refine Kd.C_alloc ?_ _) | (with_reducible refine Kd.C_drewN ?_ _) | (with_reducible refine Kd.C_drew ?_)))
            (case side2 => exact HC0_2.out)
            rintro e w63 ⟨v300, rfl, ho0, hb⟩
            refine ⟨_, rfl, ?_⟩
            have n0_ := Aside0.mk (Kd.R_elder' (by (with_reducible repeat (first | apply Kd.R_alloc | apply Kd.R_drewN | apply Kd.R_drew)); exact HO281.out) (Kd.R_base ho0) hb)
            have n1_ := Aside0.mk (Kd.R_elder' (by (with_reducible repeat (first | apply Kd.R_alloc | apply Kd.R_drewN | apply Kd.R_drew)); exact HO284.out) (Kd.R_base ho0) hb)
            have n2_ := Aside0.mk (Kd.R_elder' (by (with_reducible repeat (first | apply Kd.R_alloc | apply Kd.R_drewN | apply Kd.R_drew)); exact HO290.out) (Kd.R_base ho0) hb)
            have n3_ := Aside0.mk (Kd.R_elder' (by (with_reducible repeat (first | apply Kd.R_alloc | apply Kd.R_drewN | apply Kd.R_drew)); exact HO294.out) (Kd.R_base ho0) hb)
            have n4_ := Aside0.mk (Kd.R_lower (Kd.R_new' (Kd.R_new' (Kd.R_new' (Kd.R_new' ho0 (Kd.R_lt (by (with_reducible repeat (first | apply Kd.R_alloc | apply Kd.R_drewN | apply Kd.R_drew)); exact HO281.out))) (Kd.R_lt (by (with_reducible repeat (first | apply Kd.R_alloc | apply Kd.R_drewN | apply Kd.R_drew)); exact HO284.out))) (Kd.R_lt (by (with_reducible repeat (first | apply Kd.R_alloc | apply Kd.R_drewN | apply Kd.R_drew)); exact HO290.out))) (Kd.R_lt (by (with_reducible repeat (first | apply Kd.R_alloc | apply Kd.R_drewN | apply Kd.R_drew)); exact HO294.out))) (below_size (by repeat (first | (with_reducible first | exact HB.out | apply below_alloc | apply pw_below_drewN | apply below_drew1 | refine below_set ?_ GE273.out | refine below_set ?_ GE274.out | refine below_set ?_ GE291.out | refine below_set ?_ GE295.out) | exact HB.out))))
            have n5_ := Aside0.mk (blk_below (g := gb273) (o := .cells #[.int .i64 a0_0, .int .i64 a0_1, .slice A0_2 l0_2.length c0_2] 26 (0, 0)) (by (with_reducible repeat (first | refine blk_drewN ?_ _ | refine blk_drew ?_ | refine blk_alloc ?_ _)); exact BK273.out) hb)
            have n6_ := Aside0.mk (blk_below (g := gb274) (o := .cells #[.slice A1_0 l1_0.length c1_0] 28 (0, 0)) (by (with_reducible repeat (first | refine blk_drewN ?_ _ | refine blk_drew ?_ | refine blk_alloc ?_ _)); exact BK274.out) hb)
            have n7_ := Aside0.mk (blk_below (g := gb291) (o := .cells #[.int .i64 t286, .int .i64 t287, .slice Ao51 t288.length co51] 34 (0, 0)) (by (with_reducible repeat (first | refine blk_drewN ?_ _ | refine blk_drew ?_ | refine blk_alloc ?_ _)); exact BK291.out) hb)
            have n8_ := Aside0.mk (blk_below (g := gb295) (o := .cells #[.slice Ao55 t292.length co55] 36 (0, 0)) (by (with_reducible repeat (first | refine blk_drewN ?_ _ | refine blk_drew ?_ | refine blk_alloc ?_ _)); exact BK295.out) hb)
            have n9_ := Aside0.mk (below_step (by repeat (first | (with_reducible first | exact HB.out | apply below_alloc | apply pw_below_drewN | apply below_drew1 | refine below_set ?_ GE273.out | refine below_set ?_ GE274.out | refine below_set ?_ GE291.out | refine below_set ?_ GE295.out) | exact HB.out)) hb)
            clear HO281
            clear HO284
            clear HO290
            clear HO294
            clear BK273
            clear BK274
            clear BK291
            clear BK295
            clear HB
            have HO281 := n0_
            have HO284 := n1_
            have HO290 := n2_
            have HO294 := n3_
            have HO301 := n4_
            have BK273 := n5_
            have BK274 := n6_
            have BK291 := n7_
            have BK295 := n8_
            have HB := n9_
            clear n0_ n1_ n2_ n3_ n4_ n5_ n6_ n7_ n8_ n9_
            (try clear hb)
            (try clear hb2)
            (try clear hk)
            (try clear hi)
            (try clear ho0)
            obtain ⟨Ao64, co64, eo64⟩ := Kd.R_slice HO301.out
            (first | subst eo64 | (injection eo64 with f1_ f2_ f3_; have f4_ := f1_.symm; have f5_ := f3_.symm; clear f1_ f2_ f3_; subst f4_; subst f5_))
            refine hK.out _ _ ⟨(blk_cell BK291.out 0).trans rfl, (blk_cell BK291.out 1).trans rfl, (blk_cell BK291.out 2).trans rfl, (blk_cell BK273.out 0).trans rfl, (blk_cell BK273.out 1).trans rfl, (blk_cell BK273.out 2).trans rfl⟩ (fun hHeld => ?_)
            clear hK K
            refine norm_ (a' := ?_) ?_ ?_
            rotate_left
            · show Act.put _ (some 37) _ = _
              simp only [Act.put, List.setIfInBounds_toArray, List.set_cons_zero, List.set_cons_succ, i64_w, i32_w]
              rfl
            refine one_ (i := 3) (N := some 38) #[true, true, true, true, false] rfl rfl (by kernel_rfl) (by decide) (fun K hK => ?_)
            refine goes_ Try.func21 (by kernel_rfl) rfl #[.agg #[.int .i64 t286, .int .i64 t287, .slice Ao51 t288.length co51], .agg #[.int .i64 t297, .int .i64 t298, .slice Ao64 t299.length co64]] (by rfl) rfl rfl (by (try simp only [List.map_toArray, List.map_cons, List.map_nil]); first | done | rfl | (simp only [List.length_drop, List.length_take]; rfl)) ?_
            with_reducible refine (laws_eqMesh.calls k t286 t287 _ _ t288 t297 t298 _ _ t299 true _ ?side1 ?side2 ?side3 ?side4 A27.out).mono ?_
            (case side1 => repeat (first | exact (Kd.R_reads' HO290.out).2.2 | (with_reducible refine Kd.C_alloc ?_ _) | (with_reducible refine Kd.C_drewN ?_ _) | (with_reducible refine Kd.C_drew ?_)))
            (case side2 => exact (Kd.R_reads' HO290.out).2.1)
            (case side3 => repeat (first | exact (Kd.R_reads' HO301.out).2.2 | (with_reducible refine Kd.C_alloc ?_ _) | (with_reducible refine Kd.C_drewN ?_ _) | (with_reducible refine Kd.C_drew ?_)))
            (case side4 => exact (Kd.R_reads' HO301.out).2.1)
            rintro e w65 ⟨rfl, hb⟩
            refine ⟨_, rfl, ?_⟩
            have n0_ := Aside0.mk (Kd.R_below (by (with_reducible repeat (first | apply Kd.R_alloc | apply Kd.R_drewN | apply Kd.R_drew)); exact HO281.out) hb)
            have n1_ := Aside0.mk (Kd.R_below (by (with_reducible repeat (first | apply Kd.R_alloc | apply Kd.R_drewN | apply Kd.R_drew)); exact HO284.out) hb)
            have n2_ := Aside0.mk (Kd.R_below (by (with_reducible repeat (first | apply Kd.R_alloc | apply Kd.R_drewN | apply Kd.R_drew)); exact HO290.out) hb)
            have n3_ := Aside0.mk (Kd.R_below (by (with_reducible repeat (first | apply Kd.R_alloc | apply Kd.R_drewN | apply Kd.R_drew)); exact HO294.out) hb)
            have n4_ := Aside0.mk (Kd.R_below (by (with_reducible repeat (first | apply Kd.R_alloc | apply Kd.R_drewN | apply Kd.R_drew)); exact HO301.out) hb)
            have n5_ := Aside0.mk (blk_below (g := gb273) (o := .cells #[.int .i64 a0_0, .int .i64 a0_1, .slice A0_2 l0_2.length c0_2] 26 (0, 0)) (by (with_reducible repeat (first | refine blk_drewN ?_ _ | refine blk_drew ?_ | refine blk_alloc ?_ _)); exact BK273.out) hb)
            have n6_ := Aside0.mk (blk_below (g := gb274) (o := .cells #[.slice A1_0 l1_0.length c1_0] 28 (0, 0)) (by (with_reducible repeat (first | refine blk_drewN ?_ _ | refine blk_drew ?_ | refine blk_alloc ?_ _)); exact BK274.out) hb)
            have n7_ := Aside0.mk (blk_below (g := gb291) (o := .cells #[.int .i64 t286, .int .i64 t287, .slice Ao51 t288.length co51] 34 (0, 0)) (by (with_reducible repeat (first | refine blk_drewN ?_ _ | refine blk_drew ?_ | refine blk_alloc ?_ _)); exact BK291.out) hb)
            have n8_ := Aside0.mk (blk_below (g := gb295) (o := .cells #[.slice Ao55 t292.length co55] 36 (0, 0)) (by (with_reducible repeat (first | refine blk_drewN ?_ _ | refine blk_drew ?_ | refine blk_alloc ?_ _)); exact BK295.out) hb)
            have n9_ := Aside0.mk (below_step (by repeat (first | (with_reducible first | exact HB.out | apply below_alloc | apply pw_below_drewN | apply below_drew1 | refine below_set ?_ GE273.out | refine below_set ?_ GE274.out | refine below_set ?_ GE291.out | refine below_set ?_ GE295.out) | exact HB.out)) hb)
            clear HO281
            clear HO284
            clear HO290
            clear HO294
            clear HO301
            clear BK273
            clear BK274
            clear BK291
            clear BK295
            clear HB
            have HO281 := n0_
            have HO284 := n1_
            have HO290 := n2_
            have HO294 := n3_
            have HO301 := n4_
            have BK273 := n5_
            have BK274 := n6_
            have BK291 := n7_
            have BK295 := n8_
            have HB := n9_
            clear n0_ n1_ n2_ n3_ n4_ n5_ n6_ n7_ n8_ n9_
            (try clear hb)
            (try clear hb2)
            (try clear hk)
            (try clear hi)
            refine hK.out _ _ ⟨(blk_cell BK291.out 0).trans rfl, (blk_cell BK291.out 1).trans rfl, (blk_cell BK291.out 2).trans rfl, (blk_cell BK273.out 0).trans rfl, (blk_cell BK273.out 1).trans rfl, (blk_cell BK273.out 2).trans rfl⟩ (fun hHeld => ?_)
            clear hK K
            refine norm_ (a' := ?_) ?_ ?_
            rotate_left
            · show Act.put _ (some 38) _ = _
              simp only [Act.put, List.setIfInBounds_toArray, List.set_cons_zero, List.set_cons_succ, i64_w, i32_w]
              rfl
            refine pure_ (i := 4) (N := some 39) (v := ?_) (a' := ?_) #[true, true, true, true, true] rfl rfl (by kernel_rfl) (fun _ _ _ h => h) (Or.inl ⟨by rfl, ?_⟩) ?_ ?_
            rotate_left
            · intro w'
              go_simp
              with_reducible rfl
            rotate_left
            · simp only [Act.put, List.setIfInBounds_toArray, List.set_cons_zero, List.set_cons_succ, i64_w, i32_w]
              rfl
            refine done_ (by kernel_rfl) ?_
            try go_wp2
            have n0_ := Aside0.mk (Kd.R_drew HO281.out)
            have n1_ := Aside0.mk (Kd.R_drew HO284.out)
            have n2_ := Aside0.mk (Kd.R_drew HO290.out)
            have n3_ := Aside0.mk (Kd.R_drew HO294.out)
            have n4_ := Aside0.mk (Kd.R_drew HO301.out)
            have n5_ := Aside0.mk (blk_drew BK273.out)
            have n6_ := Aside0.mk (blk_drew BK274.out)
            have n7_ := Aside0.mk (blk_drew BK291.out)
            have n8_ := Aside0.mk (blk_drew BK295.out)
            have n9_ := Aside0.mk (below_drew1 HB.out)
            clear HO281
            clear HO284
            clear HO290
            clear HO294
            clear HO301
            clear BK273
            clear BK274
            clear BK291
            clear BK295
            clear HB
            have HO281 := n0_
            have HO284 := n1_
            have HO290 := n2_
            have HO294 := n3_
            have HO301 := n4_
            have BK273 := n5_
            have BK274 := n6_
            have BK291 := n7_
            have BK295 := n8_
            have HB := n9_
            clear n0_ n1_ n2_ n3_ n4_ n5_ n6_ n7_ n8_ n9_
            refine start_ (n := 5) (S := fun w' => w'.cell? ⟨gb295, 0, none⟩ = some (.slice Ao55 t292.length co55) ∧ w'.cell? ⟨gb274, 0, none⟩ = some (.slice A1_0 l1_0.length c1_0)) (ds := []) #[false, false, false, false, false] (by kernel_rfl) rfl rfl ⟨(blk_cell BK295.out 0).trans rfl, (blk_cell BK274.out 0).trans rfl⟩ (fun hHeld => ?_)
            generalize w65.drew = w66 at HO281 HO284 HO290 HO294 HO301 BK273 BK274 BK291 BK295 HB hHeld ⊢
            refine take_ (i := 0) (N := some 40) (v := ?_) (a' := ?_) #[true, false, false, false, false] rfl rfl (by kernel_rfl) (fun _ _ _ h => h) (Or.inl ⟨by rfl, ?_⟩) hHeld ?_ ?_
            rotate_left
            · rintro w' ⟨s0, s1⟩
              go_simp
              with_reducible rfl
            rotate_left
            · simp only [Act.put, List.setIfInBounds_toArray, List.set_cons_zero, List.set_cons_succ, i64_w, i32_w]
              rfl
            refine take_ (i := 1) (N := some 41) (v := ?_) (a' := ?_) #[true, true, false, false, false] rfl rfl (by kernel_rfl) (fun _ _ _ h => h) (Or.inl ⟨by rfl, ?_⟩) hHeld ?_ ?_
            rotate_left
            · rintro w' ⟨s0, s1⟩
              go_simp
              with_reducible rfl
            rotate_left
            · simp only [Act.put, List.setIfInBounds_toArray, List.set_cons_zero, List.set_cons_succ, i64_w, i32_w]
              rfl
            refine one_ (i := 2) (N := some 42) #[true, true, true, false, false] rfl rfl (by kernel_rfl) (by decide) (fun K hK => ?_)
            refine goes_ Try.func19 (by kernel_rfl) rfl #[.agg #[.slice A1_0 l1_0.length c1_0]] (by rfl) rfl rfl (by (try simp only [List.map_toArray, List.map_cons, List.map_nil]); first | done | rfl | (simp only [List.length_drop, List.length_take]; rfl)) ?_
            with_reducible refine (laws_toTable.calls k _ _ l1_0 t303 _ ?side1 ?side2 A29.out).mono ?_
            (case side1 => repeat (first | exact (Kd.C_below HR1_0.out HB.out) | (with_reducible refine Kd.C_alloc ?_ _) | (with_reducible refine Kd.C_drewN ?_ _) | (with_reducible refine Kd.C_drew ?_)))
            (case side2 => exact HC1_0.out)
            rintro e w67 ⟨v304, rfl, ho0, hb⟩
            refine ⟨_, rfl, ?_⟩
            have n0_ := Aside0.mk (Kd.R_elder' (by (with_reducible repeat (first | apply Kd.R_alloc | apply Kd.R_drewN | apply Kd.R_drew)); exact HO281.out) (Kd.R_base ho0) hb)
            have n1_ := Aside0.mk (Kd.R_elder' (by (with_reducible repeat (first | apply Kd.R_alloc | apply Kd.R_drewN | apply Kd.R_drew)); exact HO284.out) (Kd.R_base ho0) hb)
            have n2_ := Aside0.mk (Kd.R_elder' (by (with_reducible repeat (first | apply Kd.R_alloc | apply Kd.R_drewN | apply Kd.R_drew)); exact HO290.out) (Kd.R_base ho0) hb)
            have n3_ := Aside0.mk (Kd.R_elder' (by (with_reducible repeat (first | apply Kd.R_alloc | apply Kd.R_drewN | apply Kd.R_drew)); exact HO294.out) (Kd.R_base ho0) hb)
            have n4_ := Aside0.mk (Kd.R_elder' (by (with_reducible repeat (first | apply Kd.R_alloc | apply Kd.R_drewN | apply Kd.R_drew)); exact HO301.out) (Kd.R_base ho0) hb)
            have n5_ := Aside0.mk (Kd.R_lower (Kd.R_new' (Kd.R_new' (Kd.R_new' (Kd.R_new' (Kd.R_new' ho0 (Kd.R_lt (by (with_reducible repeat (first | apply Kd.R_alloc | apply Kd.R_drewN | apply Kd.R_drew)); exact HO281.out))) (Kd.R_lt (by (with_reducible repeat (first | apply Kd.R_alloc | apply Kd.R_drewN | apply Kd.R_drew)); exact HO284.out))) (Kd.R_lt (by (with_reducible repeat (first | apply Kd.R_alloc | apply Kd.R_drewN | apply Kd.R_drew)); exact HO290.out))) (Kd.R_lt (by (with_reducible repeat (first | apply Kd.R_alloc | apply Kd.R_drewN | apply Kd.R_drew)); exact HO294.out))) (Kd.R_lt (by (with_reducible repeat (first | apply Kd.R_alloc | apply Kd.R_drewN | apply Kd.R_drew)); exact HO301.out))) (below_size (by repeat (first | (with_reducible first | exact HB.out | apply below_alloc | apply pw_below_drewN | apply below_drew1 | refine below_set ?_ GE273.out | refine below_set ?_ GE274.out | refine below_set ?_ GE291.out | refine below_set ?_ GE295.out) | exact HB.out))))
            have n6_ := Aside0.mk (blk_below (g := gb273) (o := .cells #[.int .i64 a0_0, .int .i64 a0_1, .slice A0_2 l0_2.length c0_2] 26 (0, 0)) (by (with_reducible repeat (first | refine blk_drewN ?_ _ | refine blk_drew ?_ | refine blk_alloc ?_ _)); exact BK273.out) hb)
            have n7_ := Aside0.mk (blk_below (g := gb274) (o := .cells #[.slice A1_0 l1_0.length c1_0] 28 (0, 0)) (by (with_reducible repeat (first | refine blk_drewN ?_ _ | refine blk_drew ?_ | refine blk_alloc ?_ _)); exact BK274.out) hb)
            have n8_ := Aside0.mk (blk_below (g := gb291) (o := .cells #[.int .i64 t286, .int .i64 t287, .slice Ao51 t288.length co51] 34 (0, 0)) (by (with_reducible repeat (first | refine blk_drewN ?_ _ | refine blk_drew ?_ | refine blk_alloc ?_ _)); exact BK291.out) hb)
            have n9_ := Aside0.mk (blk_below (g := gb295) (o := .cells #[.slice Ao55 t292.length co55] 36 (0, 0)) (by (with_reducible repeat (first | refine blk_drewN ?_ _ | refine blk_drew ?_ | refine blk_alloc ?_ _)); exact BK295.out) hb)
            have n10_ := Aside0.mk (below_step (by repeat (first | (with_reducible first | exact HB.out | apply below_alloc | apply pw_below_drewN | apply below_drew1 | refine below_set ?_ GE273.out | refine below_set ?_ GE274.out | refine below_set ?_ GE291.out | refine below_set ?_ GE295.out) | exact HB.out)) hb)
            clear HO281
            clear HO284
            clear HO290
            clear HO294
            clear HO301
            clear BK273
            clear BK274
            clear BK291
            clear BK295
            clear HB
            have HO281 := n0_
            have HO284 := n1_
            have HO290 := n2_
            have HO294 := n3_
            have HO301 := n4_
            have HO305 := n5_
            have BK273 := n6_
            have BK274 := n7_
            have BK291 := n8_
            have BK295 := n9_
            have HB := n10_
            clear n0_ n1_ n2_ n3_ n4_ n5_ n6_ n7_ n8_ n9_ n10_
            (try clear hb)
            (try clear hb2)
            (try clear hk)
            (try clear hi)
            (try clear ho0)
            obtain ⟨Ao68, co68, eo68⟩ := Kd.R_slice HO305.out
            (first | subst eo68 | (injection eo68 with f1_ f2_ f3_; have f4_ := f1_.symm; have f5_ := f3_.symm; clear f1_ f2_ f3_; subst f4_; subst f5_))
            refine hK.out _ _ ⟨(blk_cell BK295.out 0).trans rfl, (blk_cell BK274.out 0).trans rfl⟩ (fun hHeld => ?_)
            clear hK K
            refine norm_ (a' := ?_) ?_ ?_
            rotate_left
            · show Act.put _ (some 42) _ = _
              simp only [Act.put, List.setIfInBounds_toArray, List.set_cons_zero, List.set_cons_succ, i64_w, i32_w]
              rfl
            refine one_ (i := 3) (N := some 43) #[true, true, true, true, false] rfl rfl (by kernel_rfl) (by decide) (fun K hK => ?_)
            refine goes_ Try.func22 (by kernel_rfl) rfl #[.agg #[.slice Ao55 t292.length co55], .agg #[.slice Ao68 t303.length co68]] (by rfl) rfl rfl (by (try simp only [List.map_toArray, List.map_cons, List.map_nil]); first | done | rfl | (simp only [List.length_drop, List.length_take]; rfl)) ?_
            with_reducible refine (laws_eqTable.calls k _ _ t292 _ _ t303 true _ ?side1 ?side2 ?side3 ?side4 A30.out).mono ?_
            (case side1 => repeat (first | exact (Kd.R_reads' HO294.out).2.2 | (with_reducible refine Kd.C_alloc ?_ _) | (with_reducible refine Kd.C_drewN ?_ _) | (with_reducible refine Kd.C_drew ?_)))
            (case side2 => exact (Kd.R_reads' HO294.out).2.1)
            (case side3 => repeat (first | exact (Kd.R_reads' HO305.out).2.2 | (with_reducible refine Kd.C_alloc ?_ _) | (with_reducible refine Kd.C_drewN ?_ _) | (with_reducible refine Kd.C_drew ?_)))
            (case side4 => exact (Kd.R_reads' HO305.out).2.1)
            rintro e w69 ⟨rfl, hb⟩
            refine ⟨_, rfl, ?_⟩
            have n0_ := Aside0.mk (Kd.R_below (by (with_reducible repeat (first | apply Kd.R_alloc | apply Kd.R_drewN | apply Kd.R_drew)); exact HO281.out) hb)
            have n1_ := Aside0.mk (Kd.R_below (by (with_reducible repeat (first | apply Kd.R_alloc | apply Kd.R_drewN | apply Kd.R_drew)); exact HO284.out) hb)
            have n2_ := Aside0.mk (Kd.R_below (by (with_reducible repeat (first | apply Kd.R_alloc | apply Kd.R_drewN | apply Kd.R_drew)); exact HO290.out) hb)
            have n3_ := Aside0.mk (Kd.R_below (by (with_reducible repeat (first | apply Kd.R_alloc | apply Kd.R_drewN | apply Kd.R_drew)); exact HO294.out) hb)
            have n4_ := Aside0.mk (Kd.R_below (by (with_reducible repeat (first | apply Kd.R_alloc | apply Kd.R_drewN | apply Kd.R_drew)); exact HO301.out) hb)
            have n5_ := Aside0.mk (Kd.R_below (by (with_reducible repeat (first | apply Kd.R_alloc | apply Kd.R_drewN | apply Kd.R_drew)); exact HO305.out) hb)
            have n6_ := Aside0.mk (blk_below (g := gb273) (o := .cells #[.int .i64 a0_0, .int .i64 a0_1, .slice A0_2 l0_2.length c0_2] 26 (0, 0)) (by (with_reducible repeat (first | refine blk_drewN ?_ _ | refine blk_drew ?_ | refine blk_alloc ?_ _)); exact BK273.out) hb)
            have n7_ := Aside0.mk (blk_below (g := gb274) (o := .cells #[.slice A1_0 l1_0.length c1_0] 28 (0, 0)) (by (with_reducible repeat (first | refine blk_drewN ?_ _ | refine blk_drew ?_ | refine blk_alloc ?_ _)); exact BK274.out) hb)
            have n8_ := Aside0.mk (blk_below (g := gb291) (o := .cells #[.int .i64 t286, .int .i64 t287, .slice Ao51 t288.length co51] 34 (0, 0)) (by (with_reducible repeat (first | refine blk_drewN ?_ _ | refine blk_drew ?_ | refine blk_alloc ?_ _)); exact BK291.out) hb)
            have n9_ := Aside0.mk (blk_below (g := gb295) (o := .cells #[.slice Ao55 t292.length co55] 36 (0, 0)) (by (with_reducible repeat (first | refine blk_drewN ?_ _ | refine blk_drew ?_ | refine blk_alloc ?_ _)); exact BK295.out) hb)
            have n10_ := Aside0.mk (below_step (by repeat (first | (with_reducible first | exact HB.out | apply below_alloc | apply pw_below_drewN | apply below_drew1 | refine below_set ?_ GE273.out | refine below_set ?_ GE274.out | refine below_set ?_ GE291.out | refine below_set ?_ GE295.out) | exact HB.out)) hb)
            clear HO281
            clear HO284
            clear HO290
            clear HO294
            clear HO301
            clear HO305
            clear BK273
            clear BK274
            clear BK291
            clear BK295
            clear HB
            have HO281 := n0_
            have HO284 := n1_
            have HO290 := n2_
            have HO294 := n3_
            have HO301 := n4_
            have HO305 := n5_
            have BK273 := n6_
            have BK274 := n7_
            have BK291 := n8_
            have BK295 := n9_
            have HB := n10_
            clear n0_ n1_ n2_ n3_ n4_ n5_ n6_ n7_ n8_ n9_ n10_
            (try clear hb)
            (try clear hb2)
            (try clear hk)
            (try clear hi)
            refine hK.out _ _ ⟨(blk_cell BK295.out 0).trans rfl, (blk_cell BK274.out 0).trans rfl⟩ (fun hHeld => ?_)
            clear hK K
            refine norm_ (a' := ?_) ?_ ?_
            rotate_left
            · show Act.put _ (some 43) _ = _
              simp only [Act.put, List.setIfInBounds_toArray, List.set_cons_zero, List.set_cons_succ, i64_w, i32_w]
              rfl
            refine pure_ (i := 4) (N := some 44) (v := ?_) (a' := ?_) #[true, true, true, true, true] rfl rfl (by kernel_rfl) (fun _ _ _ h => h) (Or.inl ⟨by rfl, ?_⟩) ?_ ?_
            rotate_left
            · intro w'
              go_simp
              with_reducible rfl
            rotate_left
            · simp only [Act.put, List.setIfInBounds_toArray, List.set_cons_zero, List.set_cons_succ, i64_w, i32_w]
              rfl
            refine done_ (by kernel_rfl) ?_
            try go_wp2
            go_ret
            exact ⟨by first | rfl | (simp [errW_none, errW_some] <;> rfl) | (simp [*, errW_none, errW_some] <;> rfl), by repeat (first | (with_reducible first | exact HB.out | apply below_alloc | apply pw_below_drewN | apply below_drew1 | refine below_set ?_ GE273.out | refine below_set ?_ GE274.out | refine below_set ?_ GE291.out | refine below_set ?_ GE295.out) | exact HB.out)⟩
          · replace c31 := Bool.eq_false_iff.mpr c31
            subst c31
            have H1 : (some false) = some r := by rw [if_neg (show ¬ (false = true) by decide)] at H; exact H
            clear H
            have H := H1
            clear H1
            obtain rfl := Option.some.inj H
            exact absurd HRT.out (by simp)
        · replace c28 := Bool.eq_false_iff.mpr c28
          subst c28
          have H1 : (some false) = some r := by rw [if_neg (show ¬ (false = true) by decide)] at H; exact H
          clear H
          have H := H1
          clear H1
          obtain rfl := Option.some.inj H
          exact absurd HRT.out (by simp)
      · rw [if_neg c25] at H
        have c25b0 : (t296 == t285) = false := beq_eq_false_iff_ne.mpr c25
        have c25b1 : (t296 != t285) = true := bne_iff_ne.mpr c25
        obtain rfl := Option.some.inj H
        exact absurd HRT.out (by simp)

/-- THE ONE PURE STATEMENT of laws_FnExactLongestWalk. -/
def laws_FnExactLongestWalk.Pure : Prop := ∀ (a0_0 : Int) (a0_1 : Int) (l0_2 : List Int) (l1_0 : List Int), (Lit.int .i64 a0_0).wf = true → (Lit.int .i64 a0_1).wf = true → l0_2.length ≤ maxLen → (∀ y ∈ l0_2, (Lit.int .i64 y).wf = true) → l1_0.length ≤ maxLen → (∀ y ∈ l1_0, (Lit.int .i64 y).wf = true) → ∃ k, laws_FnExactLongestWalk.f k a0_0 a0_1 l0_2 l1_0 = some true
theorem laws_FnExactLongestWalk.walk (P : laws_FnExactLongestWalk.Pure) (a0_0 : Int) (a0_1 : Int) (A0_2 : Option Addr) (c0_2 : Nat) (l0_2 : List Int) (A1_0 : Option Addr) (c1_0 : Nat) (l1_0 : List Int) (w : World) (hr0_2 : Kd.C (Kd.int .i64) w A0_2 l0_2.length l0_2) (hc0_2 : l0_2.length ≤ c0_2) (hr1_0 : Kd.C (Kd.int .i64) w A1_0 l1_0.length l1_0) (hc1_0 : l1_0.length ≤ c1_0) (hw0 : (Lit.int .i64 a0_0).wf = true) (hw1 : (Lit.int .i64 a0_1).wf = true) (hw2 : l0_2.length ≤ maxLen) (hw3 : (∀ y ∈ l0_2, (Lit.int .i64 y).wf = true)) (hw4 : l1_0.length ≤ maxLen) (hw5 : (∀ y ∈ l1_0, (Lit.int .i64 y).wf = true)) :
    Calls Try.prog 4 #[.agg #[.int .i64 a0_0, .int .i64 a0_1, .slice A0_2 l0_2.length c0_2], .agg #[.slice A1_0 l1_0.length c1_0]] w fun e w' => e = .returned (.bool true) ∧ Below w.heap.size w w' := by
  have h := P a0_0 a0_1 l0_2 l1_0 hw0 hw1 hw2 hw3 hw4 hw5
  obtain ⟨k, h⟩ := h
  refine (laws_FnExactLongestWalk.calls k a0_0 a0_1 A0_2 c0_2 l0_2 A1_0 c1_0 l1_0 true w hr0_2 hc0_2 hr1_0 hc1_0 rfl h).mono ?_
  rintro e w' ⟨rfl, hd⟩
  exact ⟨rfl, hd⟩


end Go.Proofs.Ytohccnaellachac.XL
