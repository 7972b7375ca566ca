/- What is proved: contracts of functions of the program (each: where its Lean function answers, the call returns that answer); written by a program of this session. -/
import Derived.Test.YtmfkgnfjjfnfmaaXO0
import Derived.Test.YtmfkgnfjjfnfmaaXO1
import Derived.Test.YtmfkgnfjjfnfmaaXO3
import Derived.Test.YtmfkgnfjjfnfmaaXO4
namespace Go.Proofs.Ytmfkgnfjjfnfmaa.XO
open Go.RowKit Go.Proofs.YtmfkgnfjjfnfmaaW.PrintWords Go.Proofs.YtmfkgnfjjfnfmaaW.PrintLast Go.Proofs.YtmfkgnfjjfnfmaaW.PrintMore
attribute [local go_sem] max2_int min2_int max_two min_two max_three min_three max_four min_four   -- for this text's walks alone
set_option linter.unusedVariables false
set_option linter.unusedSimpArgs false

/-! ### impl_IsOrder: function 39 (by hand) -/
def ordIn (a : S83) : Bool := decide (0 ≤ a.f0 ∧ a.f0 ≤ 127 ∧ 0 ≤ a.f1 ∧ a.f1 ≤ 127)
instance : Inhabited S83 := ⟨⟨0, 0⟩⟩
def OrdB : Type := { p : S83 // ordIn p = true }
instance : Inhabited OrdB := ⟨⟨⟨0, 0⟩, by decide⟩⟩
def ordC (a : OrdB) : List Value := [.int .i64 a.1.f0, .int .i64 a.1.f1]
def ordP (rk : List Int) (a : S83) : Bool := decide (rd rk a.f0 ≥ rd rk a.f1)
theorem ordB_bd (a : OrdB) : 0 ≤ a.1.f0 ∧ a.1.f0 ≤ 127 ∧ 0 ≤ a.1.f1 ∧ a.1.f1 ≤ 127 := of_decide_eq_true a.2
theorem ordLift : ∀ xs : List S83, xs.all ordIn = true → ∃ ys : List OrdB, ys.map (·.1) = xs
  | [], _ => ⟨[], rfl⟩
  | x :: xs, h => by
    simp only [List.all_cons, Bool.and_eq_true] at h
    obtain ⟨ys, e⟩ := ordLift xs h.2
    exact ⟨⟨x, h.1⟩ :: ys, by subst e; rfl⟩
set_option maxHeartbeats 2000000 in
set_option maxRecDepth 100000 in
/-- the predicate of IsOrder: the ranks do not rise -/
theorem impl_IsOrder.clo (A : Option Addr) (c : Nat) (rk : List Int) (hl : rk.length = 128) (bo : Nat) (w : World) (hb : w.heap[bo]? = some (.cells #[.slice A rk.length c] 24 (0, 0))) (hr : Kd.C (Kd.int .i64) w A rk.length rk) (hc : rk.length ≤ c) :
    PredBelow Try.prog 93 #[.pointer (some ⟨bo, 0, none⟩)] (fun x => .agg (ordC x).toArray) (fun x => ordP rk x.1) w := by
  intro W x hB
  show Calls Try.prog 93 #[.agg #[.int .i64 x.1.f0, .int .i64 x.1.f1], .pointer (some ⟨bo, 0, none⟩)] W fun e w' => e = .returned (.bool (ordP rk x.1)) ∧ Below w.heap.size w w'
  have hu1 := Try.underlying83
  have hx := ordB_bd x
  generalize hpv : ordP rk x.1 = pv
  unfold ordP at hpv
  have HP := Aside0.mk hpv
  clear hpv
  have HB := Aside0.mk hB
  have HK := Aside0.mk hb
  have HR := Aside0.mk hr
  have HL := Aside0.mk hl
  clear hB hb hr hl
  go_enter Try.func93, Try.ntmps93
  go_upto_region 1 with ((with_reducible refine gate_dst (N := 2) rfl ?_); refine box_event ?hg (N := 2) ?hd (cs := #[.int .i64 x.1.f0, .int .i64 x.1.f1]) (t := 83) ?hr ?_; (case hd => rfl); (case hg => rfl); (case hr => first | (go_simp; done) | (go_simp; rfl)); intro gd hg w1 hbox hb; have n1 := Aside0.mk (below_step HB.out hb); have BKd := Aside0.mk hbox; clear HB hb hbox hg; have HB := n1; clear n1)
  (try simp only [Act.put, List.setIfInBounds_toArray, List.set_cons_zero, List.set_cons_succ])
  have e0 : w1.cell? ⟨gd, 0, none⟩ = some (.int .i64 x.1.f0) := (blk_cell BKd.out 0).trans rfl
  have e1 : w1.cell? ⟨gd, 1, none⟩ = some (.int .i64 x.1.f1) := (blk_cell BKd.out 1).trans rfl
  have e2 : w1.cell? ⟨bo, 0, none⟩ = some (.slice A rk.length c) := (blk_cell (blk_below HK.out HB.out) 0).trans rfl
  have l1 : x.1.f0 < (rk.length : Int) := by rw [HL.out]; omega
  have l2 : x.1.f1 < (rk.length : Int) := by rw [HL.out]; omega
  obtain ⟨hx0, hx1, hx2, hx3⟩ := hx
  obtain ⟨ad, ead, g0⟩ := Kd.at_int (Kd.C_below HR.out HB.out) x.1.f0 hx0 l1
  obtain ⟨ad', ead', g1⟩ := Kd.at_int (Kd.C_below HR.out HB.out) x.1.f1 hx2 l2
  subst ead
  obtain rfl : ad = ad' := by injection ead'
  clear ead'
  generalize rd rk x.1.f0 = r0 at g0 HP
  generalize rd rk x.1.f1 = r1 at g1 HP
  generalize x.1.f0 = q0 at *
  generalize x.1.f1 = q1 at *
  go_wp2_with (fail)
  go_quiet (fail)
  have HB2 := Aside0.mk (pw_below_drewN HB.out nq)
  clear e0 e1 e2 g0 g1 HB BKd
  generalize w1.drewN nq = w2 at HB2 ⊢
  obtain rfl := HP.out
  clear HP
  go_wp2
  go_ret
  exact ⟨rfl, HB2.out⟩
theorem ordIxNone (A : Option Addr) (c : Nat) (fv : Value) (W : World) : Calls Try.prog 137 #[.slice A 0 c, fv] W fun e w' => e = .returned (.int .i64 (-1)) ∧ w' = W := by
  go_enter Try.func137, Try.ntmps137
  go_wp2
  go_loopg [5, 8] 1 (fun kq s5 s8 wr => s8 = .int .i64 0 ∧ wr = W)
  case atStart => exact ⟨rfl, rfl⟩
  case round =>
    obtain ⟨rfl, rfl⟩ := hrel
    go_wp2
    go_ret
    exact ⟨rfl, rfl⟩
theorem ordHasNone (A : Option Addr) (c : Nat) (fv : Value) (W : World) : Calls Try.prog 92 #[.slice A 0 c, fv] W fun e w' => e = .returned (.bool false) ∧ w' = W := by
  go_enter Try.func92, Try.ntmps92
  go_wp2_with (go_at_call 137; refine (ordIxNone _ _ _ _).mono ?_; rintro e w' ⟨rfl, rfl⟩)
  go_ret
  exact ⟨rfl, rfl⟩
theorem ordSpot {w : World} {a : Addr} {u : Value} (h : w.cell? a = some u) : a.spot = none := by
  unfold World.cell? at h
  split at h
  · by_cases c : a.spot.isSome = true
    · rw [if_pos c] at h; cases h
    · cases hs : a.spot with
      | none => rfl
      | some x => rw [hs] at c; exact absurd rfl c
  · cases h
/-- slices.ContainsFunc with IsOrder's predicate -/
theorem ordHas (A0 : Option Addr) (c0 : Nat) (l0 : List S83) (l1 : List Int) (hin : l0.all ordIn = true) (gs : Nat) (w : World) (hr0 : Kd.C k83 w A0 l0.length l0)
    (hp : PredBelow Try.prog 93 #[.pointer (some ⟨gs, 0, none⟩)] (fun x => .agg (ordC x).toArray) (fun x : OrdB => ordP l1 x.1) w) :
    Calls Try.prog 92 #[.slice A0 l0.length c0, .func (.func 93) #[] #[.pointer (some ⟨gs, 0, none⟩)]] w fun e w' => e = .returned (.bool (l0.any (ordP l1))) ∧ Below w.heap.size w w' := by
  rcases Nat.eq_zero_or_pos l0.length with z | z
  · obtain rfl := List.length_eq_zero_iff.1 z
    refine (ordHasNone A0 c0 _ w).mono ?_
    rintro e w' ⟨rfl, rfl⟩
    exact ⟨rfl, Below.refl _ _⟩
  · obtain ⟨ys, hys⟩ := ordLift l0 hin
    have hyl : ys.length = l0.length := by rw [← hys, List.length_map]
    have hany : (ys.take l0.length).any (fun x => ordP l1 x.1) = l0.any (ordP l1) := by rw [← hyl, List.take_length, ← hys, List.any_map]; rfl
    obtain ⟨ad, rfl, hc⟩ := hr0.2.2 z
    have key : ∀ j, j < l0.length → w.cell? (ad.add (j * 2 + 0)) = some (.int .i64 l0[j]!.f0) ∧ w.cell? (ad.add (j * 2 + 1)) = some (.int .i64 l0[j]!.f1) := by
      intro j hj
      obtain ⟨cs, _, hK, h2⟩ := hc j l0[j]! (by rw [getElem!_pos l0 j hj]; exact List.getElem?_eq_getElem hj)
      obtain rfl := k83_open hK
      exact ⟨h2 0 _ rfl, h2 1 _ rfl⟩
    have hsp : ad.spot = none := by
      have q := (key 0 z).1
      exact ordSpot (a := ad) (by simpa [Addr.add] using q)
    obtain ⟨b, off, sp⟩ := ad
    simp only at hsp
    subst hsp
    have key2 : ∀ j, j < l0.length → w.cell? ⟨b, off + j * 2 + 0, none⟩ = some (.int .i64 l0[j]!.f0) ∧ w.cell? ⟨b, off + j * 2 + 1, none⟩ = some (.int .i64 l0[j]!.f1) := by
      intro j hj
      have q := key j hj
      rw [Addr.add_lit, Addr.add_lit] at q
      exact ⟨by rw [Nat.add_assoc]; exact q.1, by rw [Nat.add_assoc]; exact q.2⟩
    have hb : b < w.heap.size := World.block_lt_of_cell? w _ (key2 0 z).1
    have hcon := AnyQ.slices_ContainsFunc Try.laysHasD 2 Try.isAgg83 Try.sizeOf83 ordC (fun _ => rfl) (fun x : OrdB => ordP l1 x.1) 93 #[.pointer (some ⟨gs, 0, none⟩)] (fun args w => by kernel_rfl) b off l0.length c0 ys w hp (by omega) hr0.2.1 hb (fun j hj i v hi => by
      have q := key2 j (by omega)
      have e : ys[j]!.1 = l0[j]! := by
        rw [getElem!_pos ys j hj, getElem!_pos l0 j (by omega)]
        have e2 : (ys.map (·.1))[j]'(by simpa using hj) = l0[j]'(by omega) := by simp only [hys]
        rw [← e2, List.getElem_map]
      rw [← e] at q
      match i, hi with
      | 0, hi => obtain rfl : _ = v := Option.some.inj hi; exact q.1
      | 1, hi => obtain rfl : _ = v := Option.some.inj hi; exact q.2
      | i + 2, hi => simp [ordC] at hi)
    change Calls Try.prog 92 _ _ _ at hcon
    rw [hany] at hcon
    exact hcon
def impl_IsOrder.l0 : Nat → List Int → Int → Option Bool
  | 0, _, _ => none
  | k + 1, rk, i => if i < 128 then ((slices_Contains_int_int.f k rk i).bind fun b => (if b = true then (impl_IsOrder.l0 k rk (wrap64 (i + 1))) else (some false))) else (some true)
def impl_IsOrder.f (k : Nat) (l0 : List S83) (l1 : List Int) : Option Bool := (impl_DependsOk.f k l0).bind fun a => (if a = true then (if (l1.length : Int) = 128 then ((impl_IsOrder.l0 k l1 0).bind fun b => (if b = true then (if l0.all ordIn = true then some (!(l0.any (ordP l1))) else none) else (some false))) else (some false)) else (some false))
theorem impl_IsOrder.mono_l : ∀ k, ∀ y0 y1, LeO (impl_IsOrder.l0 k y0 y1) (impl_IsOrder.l0 (k + 1) y0 y1)
  | 0 => fun _ _ r h => by simp [impl_IsOrder.l0] at h
  | k + 1 => by
    have ih := impl_IsOrder.mono_l k
    intro y0 y1
    unfold impl_IsOrder.l0
    exact LeO.ite (LeO.bind (slices_Contains_int_int.mono _ _ _) fun _ => LeO.ite (ih _ _) (LeO.refl _)) (LeO.refl _)
theorem impl_IsOrder.mono : ∀ a0 a1 k, LeO (impl_IsOrder.f k a0 a1) (impl_IsOrder.f (k + 1) a0 a1) := by
  intro a0 a1 k
  unfold impl_IsOrder.f
  exact LeO.bind (impl_DependsOk.mono _ _) fun _ => LeO.ite (LeO.ite (LeO.bind (impl_IsOrder.mono_l k _ _) fun _ => LeO.refl _) (LeO.refl _)) (LeO.refl _)
set_option maxHeartbeats 4000000 in
set_option maxRecDepth 100000 in
theorem impl_IsOrder.calls (k : Nat) (A0 : Option Addr) (c0 : Nat) (l0 : List S83) (A1 : Option Addr) (c1 : Nat) (l1 : List Int) (r : Bool) (w : World) (hr0 : Kd.C k83 w A0 l0.length l0) (hc0 : l0.length ≤ c0) (hr1 : Kd.C (Kd.int .i64) w A1 l1.length l1) (hc1 : l1.length ≤ c1) (h : impl_IsOrder.f k l0 l1 = some r) :
    Calls Try.prog 39 #[.slice A0 l0.length c0, .slice A1 l1.length c1] w fun e w' => e = .returned (.bool r) ∧ Below w.heap.size w w' := by
  have HR0 := Aside0.mk hr0
  have HR1 := Aside0.mk hr1
  have HB := Aside0.mk (Below.refl w.heap.size w)
  unfold impl_IsOrder.f at h
  obtain ⟨a, ha, h⟩ := Option.bind_eq_some_iff.1 h
  have HA := Aside0.mk ha
  have H := Aside0.mk h
  clear hr0 hr1 ha h
  go_enter Try.func39, Try.ntmps39
  go_wp2_with ((with_reducible refine gate_dst (N := 3) rfl ?_); refine box_event ?hg (N := 3) ?hd (cs := #[.slice A1 l1.length c1]) (t := 24) ?hr ?_; (case hd => rfl); (case hg => rfl); (case hr => first | (go_simp; done) | (go_simp; rfl)); intro gs hg w1 hbox hb; have n1 := Aside0.mk (below_step HB.out hb); have BKs := Aside0.mk hbox; clear HB hb hbox hg; have HB := n1; clear n1)
  refine (impl_DependsOk.calls k A0 c0 l0 a _ (Kd.C_below HR0.out HB.out) hc0 HA.out).mono ?_
  rintro e w2 ⟨rfl, hb⟩
  have HB2 := Aside0.mk (below_step HB.out hb)
  have BK2 := Aside0.mk (blk_below BKs.out hb)
  have e0 : w2.cell? ⟨gs, 0, none⟩ = some (.slice A1 l1.length c1) := (blk_cell BK2.out 0).trans rfl
  clear hb HA HB BKs
  cases a with
  | false =>
    have h := H.out
    rw [if_neg (by decide)] at h
    obtain rfl := Option.some.inj h
    clear H h
    go_wp2
    go_ret
    exact ⟨rfl, HB2.out⟩
  | true =>
    have h := (if_pos rfl).symm.trans H.out
    clear H
    by_cases q : (l1.length : Int) = 128
    · rw [if_pos q] at h
      obtain ⟨b, hb, h⟩ := Option.bind_eq_some_iff.1 h
      have HL := Aside0.mk hb
      have H := Aside0.mk h
      have q1 : ((l1.length : Int) != 128) = false := bne_eq_false_iff_eq.2 q
      have q2 : ((l1.length : Int) == 128) = true := beq_iff_eq.2 q
      have q3 : (l1.length == 128) = true := beq_iff_eq.2 (by omega)
      have q4 : (l1.length != 128) = false := bne_eq_false_iff_eq.2 (by omega)
      have HQ : Aside0 (l1.length = 128) := ⟨by omega⟩
      clear hb h q
      go_wp2
      go_loopg [14] 129 (fun kq v14 wr => ∃ (i kk : Nat), i ≤ 128 ∧ 128 - i < kq ∧ v14 = .int .i64 (i : Int) ∧ Aside0 (impl_IsOrder.l0 kk l1 (i : Int) = some b) ∧ Aside0 (wr.heap[gs]? = some (.cells #[.slice A1 l1.length c1] 24 (0, 0))) ∧ Aside0 (Below w.heap.size w wr))
      case atStart => exact ⟨0, k, by omega, by omega, rfl, HL, BK2, HB2⟩
      case round =>
        clear HL BK2 HB2 e0
        obtain ⟨i, kk, hi, hgk, rfl, HL, BK, HB⟩ := hrel
        cases kk with
        | zero => exact absurd HL.out (by simp [impl_IsOrder.l0])
        | succ kk =>
          have h := HL.out
          clear HL
          simp only [impl_IsOrder.l0] at h
          have e0 : wr.cell? ⟨gs, 0, none⟩ = some (.slice A1 l1.length c1) := (blk_cell BK.out 0).trans rfl
          by_cases hlt : i < 128
          · have hltz : (i : Int) < 128 := by omega
            rw [if_pos hltz] at h
            obtain ⟨d, hd, h⟩ := Option.bind_eq_some_iff.1 h
            have HD := Aside0.mk hd
            have HN := Aside0.mk h
            clear hd h
            go_wp2_with (fail)
            refine (slices_Contains_int_int.calls kk A1 c1 l1 (i : Int) d _ (Kd.C_below HR1.out HB.out) hc1 HD.out).mono ?_
            rintro e w3 ⟨rfl, hdr⟩
            obtain ⟨nq, rfl⟩ := hdr.out
            have HB3 := Aside0.mk (pw_below_drewN HB.out nq)
            have BK3 := Aside0.mk (blk_drewN BK.out nq)
            clear e0 HD HB BK hdr
            generalize wr.drewN nq = w3 at HB3 BK3 ⊢
            cases d with
            | true =>
              have HN2 : Aside0 (impl_IsOrder.l0 kk l1 ((i + 1 : Nat) : Int) = some b) := ⟨by
                have z := (if_pos rfl).symm.trans HN.out
                rw [show ((i + 1 : Nat) : Int) = wrap64 ((i : Int) + 1) by unfold wrap64; omega]
                exact z⟩
              clear HN
              go_wp2
              go_roundg (128 - i)
              case measure => omega
              case rel => exact ⟨i + 1, kk, by omega, by omega, by go_num, HN2, BK3, HB3⟩
            | false =>
              have z := HN.out
              rw [if_neg (by decide)] at z
              obtain rfl := Option.some.inj z
              have h := H.out
              rw [if_neg (by decide)] at h
              obtain rfl := Option.some.inj h
              clear HN z H h
              go_wp2
              go_ret
              exact ⟨rfl, HB3.out⟩
          · have hltz : ¬ (i : Int) < 128 := by omega
            rw [if_neg hltz] at h
            obtain rfl := Option.some.inj h
            have h := (if_pos rfl).symm.trans H.out
            clear H
            by_cases hin : l0.all ordIn = true
            · rw [if_pos hin] at h
              have HF := Aside0.mk (Option.some.inj h)
              clear h
              have hC := Kd.C_below HR0.out HB.out
              have hcon := ordHas A0 c0 l0 l1 hin gs wr hC (impl_IsOrder.clo A1 c1 l1 HQ.out gs wr BK.out (Kd.C_below HR1.out HB.out) hc1)
              have q6 := HF.out
              generalize l0.any (ordP l1) = d at hcon q6
              subst q6
              have HC := Aside0.mk hcon
              clear hcon hC HF
              go_wp2_with (fail)
              refine (HC.out).mono ?_
              rintro e w3 ⟨rfl, hb⟩
              have HB3 := Aside0.mk (below_step HB.out hb)
              clear hb HC HB BK e0
              go_wp2
              go_ret
              exact ⟨rfl, HB3.out⟩
            · rw [if_neg hin] at h
              exact absurd h (by simp)
    · rw [if_neg q] at h
      obtain rfl := Option.some.inj h
      have q1 : ((l1.length : Int) != 128) = true := bne_iff_ne.2 q
      have q2 : ((l1.length : Int) == 128) = false := beq_eq_false_iff_ne.2 q
      have q3 : (l1.length == 128) = false := beq_eq_false_iff_ne.2 (by omega)
      have q4 : (l1.length != 128) = true := bne_iff_ne.2 (by omega)
      clear h q
      go_wp2
      go_ret
      exact ⟨rfl, HB2.out⟩



/-! ### laws_FnExactIsOrder: function 6 -/
def laws_FnExactIsOrder.f (k : Nat) (l0 : List (S104)) (l1 : List Int) : Option (Bool) := if (l1.length : Int) > 1048576 then (some true) else ((laws_szDependS.f l0 1048576).bind fun t149 => (if t149 < 0 then (some true) else ((laws_toDependS.f k l0).bind fun t150 => ((laws_toIntS.f k l1).bind fun t153 => ((spec_IsOrder.f k t150 t153).bind fun t156 => ((laws_toDependS.f k l0).bind fun t157 => ((laws_toIntS.f k l1).bind fun t160 => ((impl_IsOrder.f k t157 t160).bind fun t163 => (if (t163 != t156) = true then (some false) else ((laws_toDependS.f k l0).bind fun t164 => ((laws_eqDependS.f k t157 t164).bind fun t167 => (if t167 = true then ((laws_toIntS.f k l1).bind fun t168 => ((laws_eqIntS.f k t160 t168).bind fun t171 => (if t171 = true then (some true) else (some false)))) else (some false)))))))))))))
theorem laws_FnExactIsOrder.mono : ∀ a0 a1 k, LeO (laws_FnExactIsOrder.f k a0 a1) (laws_FnExactIsOrder.f (k + 1) a0 a1) := by
  intro a0 a1 k
  unfold laws_FnExactIsOrder.f
  repeat' first
      | (with_reducible exact impl_IsOrder.mono _ _ _)
      | (with_reducible exact laws_eqDependS.mono _ _ _)
      | (with_reducible exact laws_eqIntS.mono _ _ _)
      | (with_reducible exact laws_toDependS.mono _ _)
      | (with_reducible exact laws_toIntS.mono _ _)
      | (with_reducible exact spec_IsOrder.mono _ _ _)
      | (with_reducible exact LeO.refl _)
      | (with_reducible exact LeO.none _)
      | (with_reducible refine LeO.ite ?_ ?_)
      | (with_reducible refine LeO.bind ?_ (fun _ => ?_))
      | exact impl_IsOrder.mono _ _ _
      | exact laws_eqDependS.mono _ _ _
      | exact laws_eqIntS.mono _ _ _
      | exact laws_toDependS.mono _ _
      | exact laws_toIntS.mono _ _
      | exact spec_IsOrder.mono _ _ _
      | exact LeO.none _
      | refine LeO.ite ?_ ?_
      | refine LeO.bind ?_ (fun _ => ?_)
set_option maxHeartbeats 8000000 in
set_option maxRecDepth 100000 in
theorem laws_FnExactIsOrder.calls (k : Nat) (A0 : Option Addr) (c0 : Nat) (l0 : List (S104)) (A1 : Option Addr) (c1 : Nat) (l1 : List Int) (r : Bool) (w : World) (hr0 : Kd.C k104 w A0 l0.length l0) (hc0 : l0.length ≤ c0) (hr1 : Kd.C (Kd.int .i64) w A1 l1.length l1) (hc1 : l1.length ≤ c1) (hrt0 : r = true) (h : laws_FnExactIsOrder.f k l0 l1 = some r) :
    Calls Try.prog 6 #[.slice A0 l0.length c0, .slice A1 l1.length c1] w fun e w' => e = .returned (.bool r) ∧ Below w.heap.size w w' := by
  have HRT := Aside0.mk hrt0
  clear hrt0
  have HR0 := Aside0.mk hr0
  have HC0 := Aside0.mk hc0
  clear hr0 hc0
  have HR1 := Aside0.mk hr1
  have HC1 := Aside0.mk hc1
  clear hr1 hc1
  have HB := Aside0.mk (Below.refl w.heap.size w)
  have H : (if (l1.length : Int) > 1048576 then (some true) else ((laws_szDependS.f l0 1048576).bind fun t149 => (if t149 < 0 then (some true) else ((laws_toDependS.f k l0).bind fun t150 => ((laws_toIntS.f k l1).bind fun t153 => ((spec_IsOrder.f k t150 t153).bind fun t156 => ((laws_toDependS.f k l0).bind fun t157 => ((laws_toIntS.f k l1).bind fun t160 => ((impl_IsOrder.f k t157 t160).bind fun t163 => (if (t163 != t156) = true then (some false) else ((laws_toDependS.f k l0).bind fun t164 => ((laws_eqDependS.f k t157 t164).bind fun t167 => (if t167 = true then ((laws_toIntS.f k l1).bind fun t168 => ((laws_eqIntS.f k t160 t168).bind fun t171 => (if t171 = true then (some true) else (some false)))) else (some false)))))))))))))) = some r := h
  clear h
  by_cases c3 : (l1.length : Int) > 1048576
  · rw [if_pos c3] at H
    have c3b0 : decide (1048576 < (l1.length : Int)) = true := decide_eq_true c3
    have c3b1 : decide (1048576 < l1.length) = true := decide_eq_true (by omega)
    clear c3
    obtain rfl := Option.some.inj H
    go_enter Try.func6, Try.ntmps6
    go_wp2
    go_ret
    exact ⟨by first | rfl | (simp [errW_none, errW_some] <;> rfl) | (simp [*, errW_none, errW_some] <;> rfl), by repeat (first | (with_reducible first | exact HB.out | apply below_alloc | apply pw_below_drewN | apply below_drew1) | exact HB.out)⟩
  · rw [if_neg c3] at H
    have c3b0 : decide (1048576 < (l1.length : Int)) = false := decide_eq_false c3
    have c3b1 : decide (1048576 < l1.length) = false := decide_eq_false (by omega)
    clear c3
    replace H := Option.bind_eq_some_iff.mp H
    obtain ⟨t149, A40, H⟩ := H
    replace H : (if t149 < 0 then (some true) else ((laws_toDependS.f k l0).bind fun t150 => ((laws_toIntS.f k l1).bind fun t153 => ((spec_IsOrder.f k t150 t153).bind fun t156 => ((laws_toDependS.f k l0).bind fun t157 => ((laws_toIntS.f k l1).bind fun t160 => ((impl_IsOrder.f k t157 t160).bind fun t163 => (if (t163 != t156) = true then (some false) else ((laws_toDependS.f k l0).bind fun t164 => ((laws_eqDependS.f k t157 t164).bind fun t167 => (if t167 = true then ((laws_toIntS.f k l1).bind fun t168 => ((laws_eqIntS.f k t160 t168).bind fun t171 => (if t171 = true then (some true) else (some false)))) else (some false)))))))))))) = some r := H
    have A4 := Aside0.mk A40
    clear A40
    by_cases c5 : t149 < 0
    · rw [if_pos c5] at H
      have c5b0 : decide (t149 < 0) = true := decide_eq_true c5
      clear c5
      obtain rfl := Option.some.inj H
      go_enter Try.func6, Try.ntmps6
      go_wp2_with (first | ((with_reducible refine gate_callee (f := 36) rfl ?_); refine goesL_ (some 15) rfl rfl Try.func36 (by kernel_rfl) rfl #[.slice A0 l0.length c0, .int .i64 1048576] rfl (by (try simp only [List.map_toArray, List.map_cons, List.map_nil]); first | done | rfl | (simp only [List.length_drop, List.length_take]; rfl)) ?_; (with_reducible refine (laws_szDependS.calls _ _ l0 1048576 t149 _ ?side1 ?side2 A4.out).mono ?_); (case side1 => repeat (first | exact HR0.out | (with_reducible refine Kd.C_alloc ?_ _) | (with_reducible refine Kd.C_drewN ?_ _) | (with_reducible refine Kd.C_drew ?_))); (case side2 => exact HC0.out); rintro e w' ⟨rfl, ⟨nd, rfl⟩⟩; refine ⟨_, rfl, ?_⟩))
      go_ret
      exact ⟨by first | rfl | (simp [errW_none, errW_some] <;> rfl) | (simp [*, errW_none, errW_some] <;> rfl), by repeat (first | (with_reducible first | exact HB.out | apply below_alloc | apply pw_below_drewN | apply below_drew1) | exact HB.out)⟩
    · rw [if_neg c5] at H
      have c5b0 : decide (t149 < 0) = false := decide_eq_false c5
      clear c5
      replace H := Option.bind_eq_some_iff.mp H
      obtain ⟨t150, A60, H⟩ := H
      replace H : ((laws_toIntS.f k l1).bind fun t153 => ((spec_IsOrder.f k t150 t153).bind fun t156 => ((laws_toDependS.f k l0).bind fun t157 => ((laws_toIntS.f k l1).bind fun t160 => ((impl_IsOrder.f k t157 t160).bind fun t163 => (if (t163 != t156) = true then (some false) else ((laws_toDependS.f k l0).bind fun t164 => ((laws_eqDependS.f k t157 t164).bind fun t167 => (if t167 = true then ((laws_toIntS.f k l1).bind fun t168 => ((laws_eqIntS.f k t160 t168).bind fun t171 => (if t171 = true then (some true) else (some false)))) else (some false)))))))))) = some r := H
      have A6 := Aside0.mk A60
      clear A60
      replace H := Option.bind_eq_some_iff.mp H
      obtain ⟨t153, A70, H⟩ := H
      replace H : ((spec_IsOrder.f k t150 t153).bind fun t156 => ((laws_toDependS.f k l0).bind fun t157 => ((laws_toIntS.f k l1).bind fun t160 => ((impl_IsOrder.f k t157 t160).bind fun t163 => (if (t163 != t156) = true then (some false) else ((laws_toDependS.f k l0).bind fun t164 => ((laws_eqDependS.f k t157 t164).bind fun t167 => (if t167 = true then ((laws_toIntS.f k l1).bind fun t168 => ((laws_eqIntS.f k t160 t168).bind fun t171 => (if t171 = true then (some true) else (some false)))) else (some false))))))))) = some r := H
      have A7 := Aside0.mk A70
      clear A70
      replace H := Option.bind_eq_some_iff.mp H
      obtain ⟨t156, A80, H⟩ := H
      replace H : ((laws_toDependS.f k l0).bind fun t157 => ((laws_toIntS.f k l1).bind fun t160 => ((impl_IsOrder.f k t157 t160).bind fun t163 => (if (t163 != t156) = true then (some false) else ((laws_toDependS.f k l0).bind fun t164 => ((laws_eqDependS.f k t157 t164).bind fun t167 => (if t167 = true then ((laws_toIntS.f k l1).bind fun t168 => ((laws_eqIntS.f k t160 t168).bind fun t171 => (if t171 = true then (some true) else (some false)))) else (some false)))))))) = some r := H
      have A8 := Aside0.mk A80
      clear A80
      replace H := Option.bind_eq_some_iff.mp H
      obtain ⟨t157, A90, H⟩ := H
      replace H : ((laws_toIntS.f k l1).bind fun t160 => ((impl_IsOrder.f k t157 t160).bind fun t163 => (if (t163 != t156) = true then (some false) else ((laws_toDependS.f k l0).bind fun t164 => ((laws_eqDependS.f k t157 t164).bind fun t167 => (if t167 = true then ((laws_toIntS.f k l1).bind fun t168 => ((laws_eqIntS.f k t160 t168).bind fun t171 => (if t171 = true then (some true) else (some false)))) else (some false))))))) = some r := H
      have A9 := Aside0.mk A90
      clear A90
      replace H := Option.bind_eq_some_iff.mp H
      obtain ⟨t160, A100, H⟩ := H
      replace H : ((impl_IsOrder.f k t157 t160).bind fun t163 => (if (t163 != t156) = true then (some false) else ((laws_toDependS.f k l0).bind fun t164 => ((laws_eqDependS.f k t157 t164).bind fun t167 => (if t167 = true then ((laws_toIntS.f k l1).bind fun t168 => ((laws_eqIntS.f k t160 t168).bind fun t171 => (if t171 = true then (some true) else (some false)))) else (some false)))))) = some r := H
      have A10 := Aside0.mk A100
      clear A100
      replace H := Option.bind_eq_some_iff.mp H
      obtain ⟨t163, A110, H⟩ := H
      replace H : (if (t163 != t156) = true then (some false) else ((laws_toDependS.f k l0).bind fun t164 => ((laws_eqDependS.f k t157 t164).bind fun t167 => (if t167 = true then ((laws_toIntS.f k l1).bind fun t168 => ((laws_eqIntS.f k t160 t168).bind fun t171 => (if t171 = true then (some true) else (some false)))) else (some false))))) = some r := H
      have A11 := Aside0.mk A110
      clear A110
      by_cases c12 : (t163 != t156) = true
      · rw [if_pos c12] at H
        have c12b0 : (t163 != t156) = true := c12
        (try (have c12b1 : decide (t163 = t156) = false := by simpa using c12))
        (try (have c12b2 : (t163 == t156) = false := by simpa using c12))
        (try (have c12b3 : ¬ (t163 = t156) := by simpa using c12))
        clear c12
        obtain rfl := Option.some.inj H
        exact absurd HRT.out (by simp)
      · rw [if_neg c12] at H
        have c12b0 : (t163 != t156) = false := by simpa using c12
        (try (have c12b1 : decide (t163 = t156) = true := by simpa using c12))
        (try (have c12b2 : (t163 == t156) = true := by simpa using c12))
        clear c12
        replace H := Option.bind_eq_some_iff.mp H
        obtain ⟨t164, A130, H⟩ := H
        replace H : ((laws_eqDependS.f k t157 t164).bind fun t167 => (if t167 = true then ((laws_toIntS.f k l1).bind fun t168 => ((laws_eqIntS.f k t160 t168).bind fun t171 => (if t171 = true then (some true) else (some false)))) else (some false))) = some r := H
        have A13 := Aside0.mk A130
        clear A130
        replace H := Option.bind_eq_some_iff.mp H
        obtain ⟨t167, A140, H⟩ := H
        replace H : (if t167 = true then ((laws_toIntS.f k l1).bind fun t168 => ((laws_eqIntS.f k t160 t168).bind fun t171 => (if t171 = true then (some true) else (some false)))) else (some false)) = some r := H
        have A14 := Aside0.mk A140
        clear A140
        by_cases c15 : t167 = true
        · subst c15
          have H1 : ((laws_toIntS.f k l1).bind fun t168 => ((laws_eqIntS.f k t160 t168).bind fun t171 => (if t171 = true then (some true) else (some false)))) = some r := by rw [if_pos rfl] at H; exact H
          clear H
          have H := H1
          clear H1
          replace H := Option.bind_eq_some_iff.mp H
          obtain ⟨t168, A160, H⟩ := H
          replace H : ((laws_eqIntS.f k t160 t168).bind fun t171 => (if t171 = true then (some true) else (some false))) = some r := H
          have A16 := Aside0.mk A160
          clear A160
          replace H := Option.bind_eq_some_iff.mp H
          obtain ⟨t171, A170, H⟩ := H
          replace H : (if t171 = true then (some true) else (some false)) = some r := H
          have A17 := Aside0.mk A170
          clear A170
          by_cases c18 : t171 = true
          · subst c18
            have H1 : (some true) = some r := by rw [if_pos rfl] at H; exact H
            clear H
            have H := H1
            clear H1
            obtain rfl := Option.some.inj H
            go_enter Try.func6, Try.ntmps6
            go_wp2_with (first | ((with_reducible refine gate_callee (f := 36) rfl ?_); refine goesL_ (some 15) rfl rfl Try.func36 (by kernel_rfl) rfl #[.slice A0 l0.length c0, .int .i64 1048576] rfl (by (try simp only [List.map_toArray, List.map_cons, List.map_nil]); first | done | rfl | (simp only [List.length_drop, List.length_take]; rfl)) ?_; (with_reducible refine (laws_szDependS.calls _ _ l0 1048576 t149 _ ?side1 ?side2 A4.out).mono ?_); (case side1 => repeat (first | exact HR0.out | (with_reducible refine Kd.C_alloc ?_ _) | (with_reducible refine Kd.C_drewN ?_ _) | (with_reducible refine Kd.C_drew ?_))); (case side2 => exact HC0.out); rintro e w' ⟨rfl, ⟨nd, rfl⟩⟩; refine ⟨_, rfl, ?_⟩) | ((with_reducible refine gate_callee (f := 38) rfl ?_); refine goesL_ (some 19) rfl rfl Try.func38 (by kernel_rfl) rfl #[.slice A0 l0.length c0] rfl (by (try simp only [List.map_toArray, List.map_cons, List.map_nil]); first | done | rfl | (simp only [List.length_drop, List.length_take]; rfl)) ?_; (with_reducible refine (laws_toDependS.calls k _ _ l0 t150 _ ?side1 ?side2 A6.out).mono ?_); (case side1 => repeat (first | exact HR0.out | (with_reducible refine Kd.C_alloc ?_ _) | (with_reducible refine Kd.C_drewN ?_ _) | (with_reducible refine Kd.C_drew ?_))); (case side2 => exact HC0.out); rintro e w19 ⟨v151, rfl, ho0, hb⟩; refine ⟨_, rfl, ?_⟩; have n0_ := Aside0.mk (Kd.R_lower ho0 (below_size (by repeat (first | (with_reducible first | exact HB.out | apply below_alloc | apply pw_below_drewN | apply below_drew1) | exact HB.out)))); have n1_ := Aside0.mk (below_step (by repeat (first | (with_reducible first | exact HB.out | apply below_alloc | apply pw_below_drewN | apply below_drew1) | exact HB.out)) hb); clear HB; have HO152 := n0_; have HB := n1_; clear n0_ n1_; (try clear hb); (try clear hb2); (try clear hk); (try clear hi); (try clear ho0)) | ((with_reducible refine gate_callee (f := 20) rfl ?_); refine goesL_ (some 21) rfl rfl Try.func20 (by kernel_rfl) rfl #[.slice A1 l1.length c1] rfl (by (try simp only [List.map_toArray, List.map_cons, List.map_nil]); first | done | rfl | (simp only [List.length_drop, List.length_take]; rfl)) ?_; (with_reducible refine (laws_toIntS.calls k _ _ l1 t153 _ ?side1 ?side2 A7.out).mono ?_); (case side1 => repeat (first | exact (Kd.C_below HR1.out HB.out) | (with_reducible refine Kd.C_alloc ?_ _) | (with_reducible refine Kd.C_drewN ?_ _) | (with_reducible refine Kd.C_drew ?_))); (case side2 => exact HC1.out); rintro e w20 ⟨v154, rfl, ho0, hb⟩; refine ⟨_, rfl, ?_⟩; have n0_ := Aside0.mk (Kd.R_below (by (with_reducible repeat (first | apply Kd.R_alloc | apply Kd.R_drewN | apply Kd.R_drew)); exact HO152.out) hb); have n1_ := Aside0.mk (Kd.R_lower ho0 (below_size (by repeat (first | (with_reducible first | exact HB.out | apply below_alloc | apply pw_below_drewN | apply below_drew1) | exact HB.out)))); have n2_ := Aside0.mk (below_step (by repeat (first | (with_reducible first | exact HB.out | apply below_alloc | apply pw_below_drewN | apply below_drew1) | exact HB.out)) hb); clear HO152; clear HB; have HO152 := n0_; have HO155 := n1_; have HB := n2_; clear n0_ n1_ n2_; (try clear hb); (try clear hb2); (try clear hk); (try clear hi); (try clear ho0); obtain ⟨Ao21, co21, eo21⟩ := Kd.R_slice HO152.out; subst eo21; obtain ⟨Ao22, co22, eo22⟩ := Kd.R_slice HO155.out; subst eo22) | ((with_reducible refine gate_callee (f := 37) rfl ?_); refine goesL_ (some 22) rfl rfl Try.func37 (by kernel_rfl) rfl #[.slice Ao21 t150.length co21, .slice Ao22 t153.length co22] rfl (by (try simp only [List.map_toArray, List.map_cons, List.map_nil]); first | done | rfl | (simp only [List.length_drop, List.length_take]; rfl)) ?_; (with_reducible refine (spec_IsOrder.calls k _ _ t150 _ _ t153 t156 _ ?side1 ?side2 ?side3 ?side4 A8.out).mono ?_); (case side1 => repeat (first | exact (Kd.R_reads' HO152.out).2.2 | (with_reducible refine Kd.C_alloc ?_ _) | (with_reducible refine Kd.C_drewN ?_ _) | (with_reducible refine Kd.C_drew ?_))); (case side2 => exact (Kd.R_reads' HO152.out).2.1); (case side3 => repeat (first | exact (Kd.R_reads' HO155.out).2.2 | (with_reducible refine Kd.C_alloc ?_ _) | (with_reducible refine Kd.C_drewN ?_ _) | (with_reducible refine Kd.C_drew ?_))); (case side4 => exact (Kd.R_reads' HO155.out).2.1); rintro e w23 ⟨rfl, hb⟩; refine ⟨_, rfl, ?_⟩; have n0_ := Aside0.mk (Kd.R_below (by (with_reducible repeat (first | apply Kd.R_alloc | apply Kd.R_drewN | apply Kd.R_drew)); exact HO152.out) hb); have n1_ := Aside0.mk (Kd.R_below (by (with_reducible repeat (first | apply Kd.R_alloc | apply Kd.R_drewN | apply Kd.R_drew)); exact HO155.out) hb); have n2_ := Aside0.mk (below_step (by repeat (first | (with_reducible first | exact HB.out | apply below_alloc | apply pw_below_drewN | apply below_drew1) | exact HB.out)) hb); clear HO152; clear HO155; clear HB; have HO152 := n0_; have HO155 := n1_; have HB := n2_; clear n0_ n1_ n2_; (try clear hb); (try clear hb2); (try clear hk); (try clear hi)) | ((with_reducible refine gate_callee (f := 38) rfl ?_); refine goesL_ (some 24) rfl rfl Try.func38 (by kernel_rfl) rfl #[.slice A0 l0.length c0] rfl (by (try simp only [List.map_toArray, List.map_cons, List.map_nil]); first | done | rfl | (simp only [List.length_drop, List.length_take]; rfl)) ?_; (with_reducible refine (laws_toDependS.calls k _ _ l0 t157 _ ?side1 ?side2 A9.out).mono ?_); (case side1 => repeat (first | exact (Kd.C_below HR0.out HB.out) | (with_reducible refine Kd.C_alloc ?_ _) | (with_reducible refine Kd.C_drewN ?_ _) | (with_reducible refine Kd.C_drew ?_))); (case side2 => exact HC0.out); rintro e w24 ⟨v158, rfl, ho0, hb⟩; refine ⟨_, rfl, ?_⟩; have n0_ := Aside0.mk (Kd.R_elder' (by (with_reducible repeat (first | apply Kd.R_alloc | apply Kd.R_drewN | apply Kd.R_drew)); exact HO152.out) (Kd.R_base ho0) hb); have n1_ := Aside0.mk (Kd.R_below (by (with_reducible repeat (first | apply Kd.R_alloc | apply Kd.R_drewN | apply Kd.R_drew)); exact HO155.out) hb); have n2_ := Aside0.mk (Kd.R_lower (Kd.R_new' ho0 (Kd.R_lt (by (with_reducible repeat (first | apply Kd.R_alloc | apply Kd.R_drewN | apply Kd.R_drew)); exact HO152.out))) (below_size (by repeat (first | (with_reducible first | exact HB.out | apply below_alloc | apply pw_below_drewN | apply below_drew1) | exact HB.out)))); have n3_ := Aside0.mk (below_step (by repeat (first | (with_reducible first | exact HB.out | apply below_alloc | apply pw_below_drewN | apply below_drew1) | exact HB.out)) hb); clear HO152; clear HO155; clear HB; have HO152 := n0_; have HO155 := n1_; have HO159 := n2_; have HB := n3_; clear n0_ n1_ n2_ n3_; (try clear hb); (try clear hb2); (try clear hk); (try clear hi); (try clear ho0)) | ((with_reducible refine gate_callee (f := 20) rfl ?_); refine goesL_ (some 26) rfl rfl Try.func20 (by kernel_rfl) rfl #[.slice A1 l1.length c1] rfl (by (try simp only [List.map_toArray, List.map_cons, List.map_nil]); first | done | rfl | (simp only [List.length_drop, List.length_take]; rfl)) ?_; (with_reducible refine (laws_toIntS.calls k _ _ l1 t160 _ ?side1 ?side2 A10.out).mono ?_); (case side1 => repeat (first | exact (Kd.C_below HR1.out HB.out) | (with_reducible refine Kd.C_alloc ?_ _) | (with_reducible refine Kd.C_drewN ?_ _) | (with_reducible refine Kd.C_drew ?_))); (case side2 => exact HC1.out); rintro e w25 ⟨v161, rfl, ho0, hb⟩; refine ⟨_, rfl, ?_⟩; have n0_ := Aside0.mk (Kd.R_below (by (with_reducible repeat (first | apply Kd.R_alloc | apply Kd.R_drewN | apply Kd.R_drew)); exact HO152.out) hb); have n1_ := Aside0.mk (Kd.R_elder' (by (with_reducible repeat (first | apply Kd.R_alloc | apply Kd.R_drewN | apply Kd.R_drew)); exact HO155.out) (Kd.R_base ho0) hb); have n2_ := Aside0.mk (Kd.R_below (by (with_reducible repeat (first | apply Kd.R_alloc | apply Kd.R_drewN | apply Kd.R_drew)); exact HO159.out) hb); have n3_ := Aside0.mk (Kd.R_lower (Kd.R_new' ho0 (Kd.R_lt (by (with_reducible repeat (first | apply Kd.R_alloc | apply Kd.R_drewN | apply Kd.R_drew)); exact HO155.out))) (below_size (by repeat (first | (with_reducible first | exact HB.out | apply below_alloc | apply pw_below_drewN | apply below_drew1) | exact HB.out)))); have n4_ := Aside0.mk (below_step (by repeat (first | (with_reducible first | exact HB.out | apply below_alloc | apply pw_below_drewN | apply below_drew1) | exact HB.out)) hb); clear HO152; clear HO155; clear HO159; clear HB; have HO152 := n0_; have HO155 := n1_; have HO159 := n2_; have HO162 := n3_; have HB := n4_; clear n0_ n1_ n2_ n3_ n4_; (try clear hb); (try clear hb2); (try clear hk); (try clear hi); (try clear ho0); obtain ⟨Ao26, co26, eo26⟩ := Kd.R_slice HO159.out; subst eo26; obtain ⟨Ao27, co27, eo27⟩ := Kd.R_slice HO162.out; subst eo27) | ((with_reducible refine gate_callee (f := 39) rfl ?_); refine goesL_ (some 29) rfl rfl Try.func39 (by kernel_rfl) rfl #[.slice Ao26 t157.length co26, .slice Ao27 t160.length co27] rfl (by (try simp only [List.map_toArray, List.map_cons, List.map_nil]); first | done | rfl | (simp only [List.length_drop, List.length_take]; rfl)) ?_; (with_reducible refine (impl_IsOrder.calls k _ _ t157 _ _ t160 t163 _ ?side1 ?side2 ?side3 ?side4 A11.out).mono ?_); (case side1 => repeat (first | exact (Kd.R_reads' HO159.out).2.2 | (with_reducible refine Kd.C_alloc ?_ _) | (with_reducible refine Kd.C_drewN ?_ _) | (with_reducible refine Kd.C_drew ?_))); (case side2 => exact (Kd.R_reads' HO159.out).2.1); (case side3 => repeat (first | exact (Kd.R_reads' HO162.out).2.2 | (with_reducible refine Kd.C_alloc ?_ _) | (with_reducible refine Kd.C_drewN ?_ _) | (with_reducible refine Kd.C_drew ?_))); (case side4 => exact (Kd.R_reads' HO162.out).2.1); rintro e w28 ⟨rfl, hb⟩; refine ⟨_, rfl, ?_⟩; have n0_ := Aside0.mk (Kd.R_below (by (with_reducible repeat (first | apply Kd.R_alloc | apply Kd.R_drewN | apply Kd.R_drew)); exact HO152.out) hb); have n1_ := Aside0.mk (Kd.R_below (by (with_reducible repeat (first | apply Kd.R_alloc | apply Kd.R_drewN | apply Kd.R_drew)); exact HO155.out) hb); have n2_ := Aside0.mk (Kd.R_below (by (with_reducible repeat (first | apply Kd.R_alloc | apply Kd.R_drewN | apply Kd.R_drew)); exact HO159.out) hb); have n3_ := Aside0.mk (Kd.R_below (by (with_reducible repeat (first | apply Kd.R_alloc | apply Kd.R_drewN | apply Kd.R_drew)); exact HO162.out) hb); have n4_ := Aside0.mk (below_step (by repeat (first | (with_reducible first | exact HB.out | apply below_alloc | apply pw_below_drewN | apply below_drew1) | exact HB.out)) hb); clear HO152; clear HO155; clear HO159; clear HO162; clear HB; have HO152 := n0_; have HO155 := n1_; have HO159 := n2_; have HO162 := n3_; have HB := n4_; clear n0_ n1_ n2_ n3_ n4_; (try clear hb); (try clear hb2); (try clear hk); (try clear hi)) | ((with_reducible refine gate_callee (f := 38) rfl ?_); refine goesL_ (some 35) rfl rfl Try.func38 (by kernel_rfl) rfl #[.slice A0 l0.length c0] rfl (by (try simp only [List.map_toArray, List.map_cons, List.map_nil]); first | done | rfl | (simp only [List.length_drop, List.length_take]; rfl)) ?_; (with_reducible refine (laws_toDependS.calls k _ _ l0 t164 _ ?side1 ?side2 A13.out).mono ?_); (case side1 => repeat (first | exact (Kd.C_below HR0.out HB.out) | (with_reducible refine Kd.C_alloc ?_ _) | (with_reducible refine Kd.C_drewN ?_ _) | (with_reducible refine Kd.C_drew ?_))); (case side2 => exact HC0.out); rintro e w29 ⟨v165, rfl, ho0, hb⟩; refine ⟨_, rfl, ?_⟩; have n0_ := Aside0.mk (Kd.R_elder' (by (with_reducible repeat (first | apply Kd.R_alloc | apply Kd.R_drewN | apply Kd.R_drew)); exact HO152.out) (Kd.R_base ho0) hb); have n1_ := Aside0.mk (Kd.R_below (by (with_reducible repeat (first | apply Kd.R_alloc | apply Kd.R_drewN | apply Kd.R_drew)); exact HO155.out) hb); have n2_ := Aside0.mk (Kd.R_elder' (by (with_reducible repeat (first | apply Kd.R_alloc | apply Kd.R_drewN | apply Kd.R_drew)); exact HO159.out) (Kd.R_base ho0) hb); have n3_ := Aside0.mk (Kd.R_below (by (with_reducible repeat (first | apply Kd.R_alloc | apply Kd.R_drewN | apply Kd.R_drew)); exact HO162.out) hb); have n4_ := Aside0.mk (Kd.R_lower (Kd.R_new' (Kd.R_new' ho0 (Kd.R_lt (by (with_reducible repeat (first | apply Kd.R_alloc | apply Kd.R_drewN | apply Kd.R_drew)); exact HO152.out))) (Kd.R_lt (by (with_reducible repeat (first | apply Kd.R_alloc | apply Kd.R_drewN | apply Kd.R_drew)); exact HO159.out))) (below_size (by repeat (first | (with_reducible first | exact HB.out | apply below_alloc | apply pw_below_drewN | apply below_drew1) | exact HB.out)))); have n5_ := Aside0.mk (below_step (by repeat (first | (with_reducible first | exact HB.out | apply below_alloc | apply pw_below_drewN | apply below_drew1) | exact HB.out)) hb); clear HO152; clear HO155; clear HO159; clear HO162; clear HB; have HO152 := n0_; have HO155 := n1_; have HO159 := n2_; have HO162 := n3_; have HO166 := n4_; have HB := n5_; clear n0_ n1_ n2_ n3_ n4_ n5_; (try clear hb); (try clear hb2); (try clear hk); (try clear hi); (try clear ho0); obtain ⟨Ao30, co30, eo30⟩ := Kd.R_slice HO166.out; subst eo30) | ((with_reducible refine gate_callee (f := 33) rfl ?_); refine goesL_ (some 36) rfl rfl Try.func33 (by kernel_rfl) rfl #[.slice Ao26 t157.length co26, .slice Ao30 t164.length co30] rfl (by (try simp only [List.map_toArray, List.map_cons, List.map_nil]); first | done | rfl | (simp only [List.length_drop, List.length_take]; rfl)) ?_; (with_reducible refine (laws_eqDependS.calls k _ _ t157 _ _ t164 true _ ?side1 ?side2 ?side3 ?side4 A14.out).mono ?_); (case side1 => repeat (first | exact (Kd.R_reads' HO159.out).2.2 | (with_reducible refine Kd.C_alloc ?_ _) | (with_reducible refine Kd.C_drewN ?_ _) | (with_reducible refine Kd.C_drew ?_))); (case side2 => exact (Kd.R_reads' HO159.out).2.1); (case side3 => repeat (first | exact (Kd.R_reads' HO166.out).2.2 | (with_reducible refine Kd.C_alloc ?_ _) | (with_reducible refine Kd.C_drewN ?_ _) | (with_reducible refine Kd.C_drew ?_))); (case side4 => exact (Kd.R_reads' HO166.out).2.1); rintro e w31 ⟨rfl, hb⟩; refine ⟨_, rfl, ?_⟩; have n0_ := Aside0.mk (Kd.R_below (by (with_reducible repeat (first | apply Kd.R_alloc | apply Kd.R_drewN | apply Kd.R_drew)); exact HO152.out) hb); have n1_ := Aside0.mk (Kd.R_below (by (with_reducible repeat (first | apply Kd.R_alloc | apply Kd.R_drewN | apply Kd.R_drew)); exact HO155.out) hb); have n2_ := Aside0.mk (Kd.R_below (by (with_reducible repeat (first | apply Kd.R_alloc | apply Kd.R_drewN | apply Kd.R_drew)); exact HO159.out) hb); have n3_ := Aside0.mk (Kd.R_below (by (with_reducible repeat (first | apply Kd.R_alloc | apply Kd.R_drewN | apply Kd.R_drew)); exact HO162.out) hb); have n4_ := Aside0.mk (Kd.R_below (by (with_reducible repeat (first | apply Kd.R_alloc | apply Kd.R_drewN | apply Kd.R_drew)); exact HO166.out) hb); have n5_ := Aside0.mk (below_step (by repeat (first | (with_reducible first | exact HB.out | apply below_alloc | apply pw_below_drewN | apply below_drew1) | exact HB.out)) hb); clear HO152; clear HO155; clear HO159; clear HO162; clear HO166; clear HB; have HO152 := n0_; have HO155 := n1_; have HO159 := n2_; have HO162 := n3_; have HO166 := n4_; have HB := n5_; clear n0_ n1_ n2_ n3_ n4_ n5_; (try clear hb); (try clear hb2); (try clear hk); (try clear hi)) | ((with_reducible refine gate_callee (f := 20) rfl ?_); refine goesL_ (some 40) rfl rfl Try.func20 (by kernel_rfl) rfl #[.slice A1 l1.length c1] rfl (by (try simp only [List.map_toArray, List.map_cons, List.map_nil]); first | done | rfl | (simp only [List.length_drop, List.length_take]; rfl)) ?_; (with_reducible refine (laws_toIntS.calls k _ _ l1 t168 _ ?side1 ?side2 A16.out).mono ?_); (case side1 => repeat (first | exact (Kd.C_below HR1.out HB.out) | (with_reducible refine Kd.C_alloc ?_ _) | (with_reducible refine Kd.C_drewN ?_ _) | (with_reducible refine Kd.C_drew ?_))); (case side2 => exact HC1.out); rintro e w32 ⟨v169, rfl, ho0, hb⟩; refine ⟨_, rfl, ?_⟩; have n0_ := Aside0.mk (Kd.R_below (by (with_reducible repeat (first | apply Kd.R_alloc | apply Kd.R_drewN | apply Kd.R_drew)); exact HO152.out) hb); have n1_ := Aside0.mk (Kd.R_elder' (by (with_reducible repeat (first | apply Kd.R_alloc | apply Kd.R_drewN | apply Kd.R_drew)); exact HO155.out) (Kd.R_base ho0) hb); have n2_ := Aside0.mk (Kd.R_below (by (with_reducible repeat (first | apply Kd.R_alloc | apply Kd.R_drewN | apply Kd.R_drew)); exact HO159.out) hb); have n3_ := Aside0.mk (Kd.R_elder' (by (with_reducible repeat (first | apply Kd.R_alloc | apply Kd.R_drewN | apply Kd.R_drew)); exact HO162.out) (Kd.R_base ho0) hb); have n4_ := Aside0.mk (Kd.R_below (by (with_reducible repeat (first | apply Kd.R_alloc | apply Kd.R_drewN | apply Kd.R_drew)); exact HO166.out) hb); have n5_ := Aside0.mk (Kd.R_lower (Kd.R_new' (Kd.R_new' ho0 (Kd.R_lt (by (with_reducible repeat (first | apply Kd.R_alloc | apply Kd.R_drewN | apply Kd.R_drew)); exact HO155.out))) (Kd.R_lt (by (with_reducible repeat (first | apply Kd.R_alloc | apply Kd.R_drewN | apply Kd.R_drew)); exact HO162.out))) (below_size (by repeat (first | (with_reducible first | exact HB.out | apply below_alloc | apply pw_below_drewN | apply below_drew1) | exact HB.out)))); have n6_ := Aside0.mk (below_step (by repeat (first | (with_reducible first | exact HB.out | apply below_alloc | apply pw_below_drewN | apply below_drew1) | exact HB.out)) hb); clear HO152; clear HO155; clear HO159; clear HO162; clear HO166; clear HB; have HO152 := n0_; have HO155 := n1_; have HO159 := n2_; have HO162 := n3_; have HO166 := n4_; have HO170 := n5_; have HB := n6_; clear n0_ n1_ n2_ n3_ n4_ n5_ n6_; (try clear hb); (try clear hb2); (try clear hk); (try clear hi); (try clear ho0); obtain ⟨Ao33, co33, eo33⟩ := Kd.R_slice HO170.out; subst eo33) | ((with_reducible refine gate_callee (f := 24) rfl ?_); refine goesL_ (some 41) rfl rfl Try.func24 (by kernel_rfl) rfl #[.slice Ao27 t160.length co27, .slice Ao33 t168.length co33] rfl (by (try simp only [List.map_toArray, List.map_cons, List.map_nil]); first | done | rfl | (simp only [List.length_drop, List.length_take]; rfl)) ?_; (with_reducible refine (laws_eqIntS.calls k _ _ t160 _ _ t168 true _ ?side1 ?side2 ?side3 ?side4 A17.out).mono ?_); (case side1 => repeat (first | exact (Kd.R_reads' HO162.out).2.2 | (with_reducible refine Kd.C_alloc ?_ _) | (with_reducible refine Kd.C_drewN ?_ _) | (with_reducible refine Kd.C_drew ?_))); (case side2 => exact (Kd.R_reads' HO162.out).2.1); (case side3 => repeat (first | exact (Kd.R_reads' HO170.out).2.2 | (with_reducible refine Kd.C_alloc ?_ _) | (with_reducible refine Kd.C_drewN ?_ _) | (with_reducible refine Kd.C_drew ?_))); (case side4 => exact (Kd.R_reads' HO170.out).2.1); rintro e w' ⟨rfl, ⟨nd, rfl⟩⟩; refine ⟨_, rfl, ?_⟩))
            go_ret
            exact ⟨by first | rfl | (simp [errW_none, errW_some] <;> rfl) | (simp [*, errW_none, errW_some] <;> rfl), by repeat (first | (with_reducible first | exact HB.out | apply below_alloc | apply pw_below_drewN | apply below_drew1) | exact HB.out)⟩
          · replace c18 := Bool.eq_false_iff.mpr c18
            subst c18
            have H1 : (some false) = some r := by rw [if_neg (show ¬ (false = true) by decide)] at H; exact H
            clear H
            have H := H1
            clear H1
            obtain rfl := Option.some.inj H
            exact absurd HRT.out (by simp)
        · replace c15 := Bool.eq_false_iff.mpr c15
          subst c15
          have H1 : (some false) = some r := by rw [if_neg (show ¬ (false = true) by decide)] at H; exact H
          clear H
          have H := H1
          clear H1
          obtain rfl := Option.some.inj H
          exact absurd HRT.out (by simp)

/-- THE ONE PURE STATEMENT of laws_FnExactIsOrder. -/
def laws_FnExactIsOrder.Pure : Prop := ∀ (l0 : List (S104)) (l1 : List Int), l0.length ≤ maxLen → (∀ y ∈ l0, (Lit.int .i64 y.f0).wf = true ∧ (Lit.int .i64 y.f1).wf = true) → l1.length ≤ maxLen → l1.length * 8 ≤ 140737488351232 → (∀ y ∈ l1, (Lit.int .i64 y).wf = true) → ∃ k, laws_FnExactIsOrder.f k l0 l1 = some true
theorem laws_FnExactIsOrder.walk (P : laws_FnExactIsOrder.Pure) (A0 : Option Addr) (c0 : Nat) (l0 : List (S104)) (A1 : Option Addr) (c1 : Nat) (l1 : List Int) (w : World) (hr0 : Kd.C k104 w A0 l0.length l0) (hc0 : l0.length ≤ c0) (hr1 : Kd.C (Kd.int .i64) w A1 l1.length l1) (hc1 : l1.length ≤ c1) (hw0 : l0.length ≤ maxLen) (hw1 : (∀ y ∈ l0, (Lit.int .i64 y.f0).wf = true ∧ (Lit.int .i64 y.f1).wf = true)) (hw2 : l1.length ≤ maxLen) (hw3 : l1.length * 8 ≤ 140737488351232) (hw4 : (∀ y ∈ l1, (Lit.int .i64 y).wf = true)) :
    Calls Try.prog 6 #[.slice A0 l0.length c0, .slice A1 l1.length c1] w fun e w' => e = .returned (.bool true) ∧ Below w.heap.size w w' := by
  have h := P l0 l1 hw0 hw1 hw2 hw3 hw4
  obtain ⟨k, h⟩ := h
  refine (laws_FnExactIsOrder.calls k A0 c0 l0 A1 c1 l1 true w hr0 hc0 hr1 hc1 rfl h).mono ?_
  rintro e w' ⟨rfl, hd⟩
  exact ⟨rfl, hd⟩


end Go.Proofs.Ytmfkgnfjjfnfmaa.XO
