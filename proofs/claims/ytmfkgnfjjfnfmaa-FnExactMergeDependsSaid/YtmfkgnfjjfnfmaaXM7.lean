/- What is proved: contracts of functions of the program (each: where its Lean function answers, the call returns that answer); written by a program of this session. -/
import Derived.Test.YtmfkgnfjjfnfmaaXM0
import Derived.Test.YtmfkgnfjjfnfmaaXM2
import Derived.Test.YtmfkgnfjjfnfmaaXM5
import Derived.Test.YtmfkgnfjjfnfmaaXM6
namespace Go.Proofs.Ytmfkgnfjjfnfmaa.XM
open Go.RowKit Go.Proofs.YtmfkgnfjjfnfmaaW.PrintWords Go.Proofs.YtmfkgnfjjfnfmaaW.PrintLast Go.Proofs.YtmfkgnfjjfnfmaaW.PrintMore
attribute [local go_sem] max2_int min2_int max_two min_two max_three min_three max_four min_four   -- for this text's walks alone
set_option linter.unusedVariables false
set_option linter.unusedSimpArgs false

/-! ### impl_arranged: function 88 (by hand) -/
instance : Inhabited S83 := ⟨z83⟩
instance : DecidableEq S83 := fun a b => if h : a.f0 = b.f0 ∧ a.f1 = b.f1 then .isTrue (by cases a; cases b; simp_all) else .isFalse (fun e => h (by rw [e]; exact ⟨rfl, rfl⟩))
def depC (a : S83) : List Value := [.int .i64 a.f0, .int .i64 a.f1]
/-- between 0 and 127, both -/
def depIn (a : S83) : Bool := decide (0 ≤ a.f0 ∧ a.f0 ≤ 127 ∧ 0 ≤ a.f1 ∧ a.f1 ≤ 127)
def depLe (a b : S83) : Bool := decide (a.f0 < b.f0 ∨ (a.f0 = b.f0 ∧ a.f1 ≤ b.f1))
def impl_arranged.f (l : List S83) : Option (List S83) := if l.all depIn = true then (if l.length ≤ 100000000 then some (Lib.compact (l.mergeSort depLe)) else none) else none
theorem dep_flat : ∀ (xs : List S83) (inner : List Value), Reps (fun p c => c = depC p) 2 xs inner → inner = xs.flatMap depC
  | [], inner, h => by
    have := h.1
    exact List.eq_nil_of_length_eq_zero (by simpa using this)
  | x :: xs, inner, h => by
    have h0 := h.2 0 x rfl
    simp only [Nat.zero_mul, List.drop_zero] at h0
    have ih := dep_flat xs (inner.drop 2) ⟨by have := h.1; rw [List.length_drop, this, List.length_cons, Nat.succ_mul]; omega, fun j p hj => by
      have q := h.2 (j + 1) p (by simpa using hj)
      rw [List.drop_drop]
      rw [show 2 + j * 2 = (j + 1) * 2 by omega]
      exact q⟩
    rw [List.flatMap_cons, ← ih, ← h0, List.take_append_drop]
theorem dep_reps : ∀ (xs : List S83), Reps (fun p c => c = depC p) 2 xs (xs.flatMap depC)
  | [] => Reps.none _ _
  | x :: xs => by
    have ih := dep_reps xs
    refine ⟨by rw [List.flatMap_cons, List.length_append, ih.1, List.length_cons, Nat.succ_mul]; simp [depC]; omega, fun j p hj => ?_⟩
    cases j with
    | zero =>
      have e : x = p := by simpa using hj
      subst e
      simp [List.flatMap_cons, depC]
    | succ j =>
      have q := ih.2 j p (by simpa using hj)
      rw [List.flatMap_cons, show (j + 1) * 2 = 2 + j * 2 by omega, ← List.drop_drop]
      simpa [depC] using q
theorem dep_own {w : World} {base : Nat} {ok : Nat → Prop} {v : Value} {xs : List S83} (h : Kd.R k83 83 w base ok v xs) : w.ownsRow base 83 2 v xs.length (xs.flatMap depC) := by
  obtain ⟨_, inner, ho, hr⟩ := h
  have e := dep_flat xs inner (hr.imp_ (fun p c hp => k83_openM hp))
  subst e
  exact ho
theorem dep_R {w : World} {base : Nat} {v : Value} {xs : List S83} (h : w.ownsRow base 83 2 v xs.length (xs.flatMap depC)) : Kd.R k83 83 w base (fun _ => True) v xs :=
  ⟨fun _ _ => trivial, _, h, (dep_reps xs).imp_ (fun p c hp => by subst hp; exact k83_mkM _ _ _ p)⟩
/-- the model's == of two dependencies -/
theorem depEq (a b : S83) (w : World) : Sem.run Try.prog (binOp .eql 83 (.agg #[.int .i64 a.f0, .int .i64 a.f1]) (.agg #[.int .i64 b.f0, .int .i64 b.f1])) w = .ok (.bool (decide (a = b))) w := by
  have u3 := Try.underlying3
  have a3 := Try.isAgg3
  have z3 := Try.sizeOf3
  have hS : Try.prog.underlying 83 = some (.struct (Try.prog.fieldsOf 83)) := by kernel_rfl
  have hp : Try.prog.stoodInHeld 83 = false := by kernel_rfl
  have e : decide (a = b) = (decide (a.f0 = b.f0) && decide (a.f1 = b.f1)) := by
    cases a; cases b; simp
  rw [e, run_eql_struct, show (10000 : Nat) = 9999 + 1 from rfl, run_equalIn_agg w 9999 83 _ _ hS hp]
  simp only [Program.fieldsOf, Try.underlying83]
  go_simp
  by_cases h1 : a.f0 = b.f0 <;> by_cases h2 : a.f1 = b.f1 <;> simp [h1, h2]
theorem depNe (a b : S83) (w : World) : Sem.run Try.prog (binOp .neq 83 (.agg #[.int .i64 a.f0, .int .i64 a.f1]) (.agg #[.int .i64 b.f0, .int .i64 b.f1])) w = .ok (.bool (!decide (a = b))) w := by
  have u3 := Try.underlying3
  have a3 := Try.isAgg3
  have z3 := Try.sizeOf3
  have hS : Try.prog.underlying 83 = some (.struct (Try.prog.fieldsOf 83)) := by kernel_rfl
  have hp : Try.prog.stoodInHeld 83 = false := by kernel_rfl
  have e : decide (a = b) = (decide (a.f0 = b.f0) && decide (a.f1 = b.f1)) := by
    cases a; cases b; simp
  rw [e, run_neq_struct, show (10000 : Nat) = 9999 + 1 from rfl, run_equalIn_agg w 9999 83 _ _ hS hp]
  simp only [Program.fieldsOf, Try.underlying83]
  go_simp
  by_cases h1 : a.f0 = b.f0 <;> by_cases h2 : a.f1 = b.f1 <;> simp [h1, h2]
theorem dep_cell {w : World} {base g n c : Nat} {xs : List S83} (own : w.ownsRow base 83 2 (.slice (some ⟨g, 0, none⟩) n c) n (xs.flatMap depC)) (hn : n = xs.length) (k : Nat) (hk : k < xs.length) :
    (w.cell? ⟨g, k * 2, none⟩ = some (.int .i64 xs[k]!.f0) ∧ w.cell? ⟨g, k * 2 + 1, none⟩ = some (.int .i64 xs[k]!.f1)) ∧ w.frozen? ⟨g, k * 2, none⟩ = false ∧ w.frozen? ⟨g, k * 2 + 1, none⟩ = false := by
  obtain ⟨hH, _, _⟩ := Srt.holds_of_own own (by omega)
  have hl := Srt.flat_len depC 2 (fun _ => rfl) xs
  have h0 := hH (k * 2) (by simp [hl]; omega)
  have h1 := hH (k * 2 + 1) (by simp [hl]; omega)
  have e0 := Srt.flat_get depC 2 (fun _ => rfl) (by omega) xs (k * 2) (by omega)
  have e1 := Srt.flat_get depC 2 (fun _ => rfl) (by omega) xs (k * 2 + 1) (by omega)
  rw [show k * 2 / 2 = k by omega, show k * 2 % 2 = 0 by omega] at e0
  rw [show (k * 2 + 1) / 2 = k by omega, show (k * 2 + 1) % 2 = 1 by omega] at e1
  rw [show (xs.flatMap depC).toArray[k * 2]! = (xs.flatMap depC)[k * 2]! by simp, e0, Nat.zero_add] at h0
  rw [show (xs.flatMap depC).toArray[k * 2 + 1]! = (xs.flatMap depC)[k * 2 + 1]! by simp, e1, Nat.zero_add] at h1
  exact ⟨⟨h0.1, h1.1⟩, h0.2, h1.2⟩
theorem depKeeps_no {xs : List S83} {k : Nat} (h0 : 0 < k) (h : xs[k]! = xs[k - 1]!) : Lib.keeps xs.toArray k = false := by
  unfold Lib.keeps
  rw [show xs.toArray[k]! = xs[k]! by simp, show xs.toArray[k - 1]! = xs[k - 1]! by simp]
  exact decide_eq_false (by rw [h]; simp; omega)
theorem depKeeps_yes {xs : List S83} {k : Nat} (h : xs[k]! ≠ xs[k - 1]!) : Lib.keeps xs.toArray k = true := by
  unfold Lib.keeps
  rw [show xs.toArray[k]! = xs[k]! by simp, show xs.toArray[k - 1]! = xs[k - 1]! by simp]
  exact decide_eq_true (.inr h)
theorem depZeros (n : Nat) : (Builtin.zeroCells (Value.agg #[.int .i64 0, .int .i64 0]).cells n).toList.length = n * 2 ∧ ∀ v ∈ (Builtin.zeroCells (Value.agg #[.int .i64 0, .int .i64 0]).cells n).toList, v.oneCell' = true := by
  unfold Builtin.zeroCells
  refine ⟨by simp [Value.cells], fun v hv => ?_⟩
  simp only [Value.cells, Array.toList_map, List.mem_map] at hv
  obtain ⟨i, _, rfl⟩ := hv
  have h2 : i % 2 = 0 ∨ i % 2 = 1 := by omega
  show (#[Value.int .i64 0, Value.int .i64 0][i % 2]!).oneCell' = true
  rcases h2 with h | h <;> rw [h] <;> rfl
theorem depClear {P : Program} (w : World) (t e ty : TypeId) (z : Value) (ht : P.underlying t = some (.slice e)) (hv : ∀ w, (zeroValue e).run P w = .ok z w) (b o n c : Nat) (hn : 0 < n)
    (h1 : ∀ v ∈ (Builtin.zeroCells z.cells n).toList, v.oneCell' = true) (hc : ∀ j, j < (Builtin.zeroCells z.cells n).toList.length → (w.cell? ⟨b, o + j, none⟩).isSome = true ∧ w.frozen? ⟨b, o + j, none⟩ = false) :
    (Builtin.clear_ #[t] ty #[.slice (some ⟨b, o, none⟩) n c]).run P w = .ok (.tuple #[]) (w.setCells b o (Builtin.zeroCells z.cells n).toList) := by
  have hst := run_storeCells_cells (P := P) b o (Builtin.zeroCells z.cells n).toList 0 w (fun j hj => (hc j hj).1) (fun j hj => (hc j hj).2) h1
  simp only [Nat.add_zero] at hst
  obtain ⟨m, rfl⟩ : ∃ m, n = m + 1 := ⟨n - 1, by omega⟩
  simp [Builtin.clear_, run_underlying ht, hv, hst]
set_option maxHeartbeats 4000000 in
set_option maxRecDepth 1000000 in
/-- slices.Compact at dependencies: each run of equal ones once -/
theorem depCompact (g c : Nat) (xs : List S83) (w00 w : World) (hB : Below w00.heap.size w00 w) (hO : Kd.R k83 83 w w00.heap.size (fun _ => True) (.slice (some ⟨g, 0, none⟩) xs.length c) xs) :
    Calls Try.prog 136 #[.slice (some ⟨g, 0, none⟩) xs.length c] w fun e w' => e = .returned (.slice (some ⟨g, 0, none⟩) (Lib.compact xs).length c) ∧ Kd.R k83 83 w' w00.heap.size (fun _ => True) (.slice (some ⟨g, 0, none⟩) (Lib.compact xs).length c) (Lib.compact xs) ∧ Below w00.heap.size w00 w' := by
  have hu1 := Try.underlying83
  have hxl : xs.length ≤ 9223372036854775807 := (Kd.R_reads' hO).2.2.2.1
  have hxc : xs.length ≤ c := (Kd.R_reads' hO).2.1
  have HB := Aside0.mk hB
  have HO := Aside0.mk hO
  clear hB hO
  by_cases h2 : xs.length < 2
  · have hall : Lib.compact xs = xs := Lib.compact_all xs (fun j hj => Lib.keeps_lt_one _ j (by omega))
    rw [hall]
    clear hall
    go_enter Try.func136, Try.ntmps136
    go_wp2
    go_ret
    exact ⟨rfl, HO.out, HB.out⟩
  · go_enter Try.func136, Try.ntmps136
    go_wp2
    go_loopg [3] xs.length (fun kq s3 wr => ∃ k : Nat, 1 ≤ k ∧ k ≤ xs.length ∧ xs.length - k ≤ kq ∧ s3 = .int .i64 (k : Int) ∧ Aside0 (Kd.R k83 83 wr w00.heap.size (fun _ => True) (.slice (some ⟨g, 0, none⟩) xs.length c) xs) ∧ Aside0 (Below w00.heap.size w00 wr) ∧ Aside0 (∀ j, j < k → Lib.keeps xs.toArray j = true))
    case atStart => exact ⟨1, Nat.le_refl _, by omega, by omega, rfl, HO, HB, ⟨Lib.keeps_lt_one _⟩⟩
    case round =>
      clear HO HB
      obtain ⟨k, hk1, hk, hgk, rfl, HO, HB, HA⟩ := hrel
      by_cases hlt : k < xs.length
      · have hltz : (k : Int) < (xs.length : Int) := by omega
        have own := dep_own HO.out
        obtain ⟨⟨c0, c1⟩, _⟩ := dep_cell own rfl k hlt
        obtain ⟨⟨c2, c3⟩, _⟩ := dep_cell own rfl (k - 1) (by omega)
        have HX := Aside0.mk own
        clear own
        have p1 : (0 : Int) ≤ (k : Int) := by omega
        have p2 : (0 : Int) ≤ ((k - 1 : Nat) : Int) := by omega
        have p3 : ((k - 1 : Nat) : Int) < (xs.length : Int) := by omega
        have HW : Aside0 (IntKind.i64.wrap ((k : Int) - 1) = ((k - 1 : Nat) : Int)) := ⟨(i64_w _).trans (by unfold wrap64; omega)⟩
        generalize hx : xs[k]! = x at c0 c1
        generalize hy : xs[k - 1]! = y at c2 c3
        have HXY : Aside0 (xs[k]! = x ∧ xs[k - 1]! = y) := ⟨hx, hy⟩
        clear hx hy
        have heq := depEq x y
        have hw1 := HW.out
        go_wp2_with (fail)
        go_quiet (fail)
        have HO2 := Aside0.mk (Kd.R_drewN HO.out nq)
        have HB2 := Aside0.mk (pw_below_drewN HB.out nq)
        clear hw1 HW heq c0 c1 c2 c3 HX HO HB
        generalize wr.drewN nq = wr2 at HO2 HB2 ⊢
        by_cases q : x = y
        · have q1 : decide (x = y) = true := decide_eq_true q
          have HI : Aside0 (Lib.CompInv xs.toArray (k + 1) k xs.toArray) := ⟨Lib.CompInv.start HA.out (depKeeps_no (by omega) (by rw [HXY.out.1, HXY.out.2, q]))⟩
          rw [q1]
          clear q q1 HXY HA
          have p4 : ¬ c = k := by omega
          have p5 : ¬ c - k = 0 := by omega
          go_wp2
          go_loopg [3, 5] xs.length (fun kq s3 s5 wq => ∃ (kk k2 : Nat) (dk : List S83), s3 = .int .i64 (kk : Int) ∧ s5 = .int .i64 (k2 : Int) ∧ 1 ≤ k2 ∧ k + k2 ≤ xs.length ∧ xs.length - (k + k2) ≤ kq ∧ dk.length = xs.length ∧ Aside0 (Kd.R k83 83 wq w00.heap.size (fun _ => True) (.slice (some ⟨g, 0, none⟩) dk.length c) dk) ∧ Aside0 (Below w00.heap.size w00 wq) ∧ Aside0 (Lib.CompInv xs.toArray (k + k2) kk dk.toArray))
          case atStart => exact ⟨k, 1, xs, rfl, rfl, Nat.le_refl _, by omega, by omega, rfl, HO2, HB2, HI⟩
          case round =>
            clear HO2 HB2 HI
            obtain ⟨kk, k2, dk, rfl, rfl, h1, hle, hg2, hdl, HO, HB, HI⟩ := hrel
            have hkk := HI.out.lt
            have HDL := Aside0.mk hdl
            have own := Aside0.mk (dep_own HO.out)
            by_cases hlt2 : k + k2 < xs.length
            · have hltz2 : (k2 : Int) < ((xs.length - k : Nat) : Int) := by omega
              have hltz3 : decide (k2 < xs.length - k) = true := decide_eq_true (by omega)
              obtain ⟨⟨c0, c1⟩, _⟩ := dep_cell own.out rfl (k + k2) (by omega)
              obtain ⟨⟨c2, c3⟩, _⟩ := dep_cell own.out rfl (k + k2 - 1) (by omega)
              have hh1 := HI.out.high (k + k2) (by omega)
              have hh2 := HI.out.high (k + k2 - 1) (by omega)
              rw [show dk.toArray[k + k2]! = dk[k + k2]! by simp, show xs.toArray[k + k2]! = xs[k + k2]! by simp] at hh1
              rw [show dk.toArray[k + k2 - 1]! = dk[k + k2 - 1]! by simp, show xs.toArray[k + k2 - 1]! = xs[k + k2 - 1]! by simp] at hh2
              rw [hh1, show (k + k2) * 2 = k * 2 + k2 * 2 by omega] at c0 c1
              rw [hh2, show (k + k2 - 1) * 2 = k * 2 + (k2 - 1) * 2 by omega] at c2 c3
              clear hh1 hh2 hdl
              have p1 : (0 : Int) ≤ (k2 : Int) := by omega
              have p2 : (0 : Int) ≤ ((k2 - 1 : Nat) : Int) := by omega
              have p3 : ((k2 - 1 : Nat) : Int) < ((xs.length - k : Nat) : Int) := by omega
              have HW : Aside0 (IntKind.i64.wrap ((k2 : Int) - 1) = ((k2 - 1 : Nat) : Int)) := ⟨(i64_w _).trans (by unfold wrap64; omega)⟩
              generalize hx : xs[k + k2]! = u at c0 c1
              generalize hy : xs[k + k2 - 1]! = v at c2 c3
              have HXY : Aside0 (xs[k + k2]! = u ∧ xs[k + k2 - 1]! = v) := ⟨hx, hy⟩
              clear hx hy
              have heq := depNe u v
              have hw1 := HW.out
              go_wp2_with (fail)
              go_quiet (fail)
              have HO2 := Aside0.mk (Kd.R_drewN HO.out nq)
              have HB2 := Aside0.mk (pw_below_drewN HB.out nq)
              have e0 : (wr.drewN nq).cell? ⟨g, k * 2 + k2 * 2, none⟩ = some (.int .i64 u.f0) := c0
              have e1 : (wr.drewN nq).cell? ⟨g, k * 2 + k2 * 2 + 1, none⟩ = some (.int .i64 u.f1) := c1
              clear hw1 HW heq c0 c1 c2 c3 HO HB own
              generalize wr.drewN nq = wr3 at HO2 HB2 e0 e1 ⊢
              by_cases huv : u = v
              · have q1 : decide (u = v) = true := decide_eq_true huv
                have HI2 : Aside0 (Lib.CompInv xs.toArray (k + (k2 + 1)) kk dk.toArray) := ⟨HI.out.skip (depKeeps_no (by omega) (by rw [HXY.out.1, HXY.out.2, huv]))⟩
                rw [q1]
                clear q1 huv HXY HI e0 e1
                go_wp2
                go_roundg (xs.length - (k + (k2 + 1)))
                case measure => omega
                case rel => exact ⟨kk, k2 + 1, dk, rfl, by go_num, by omega, by omega, Nat.le_refl _, HDL.out, HO2, HB2, HI2⟩
              · have q1 : decide (u = v) = false := decide_eq_false huv
                have HI2 : Aside0 (Lib.CompInv xs.toArray (k + (k2 + 1)) (kk + 1) (dk.set kk u).toArray) := ⟨by
                  have z := HI.out.keep (by simpa using hlt2) (depKeeps_yes (by rw [HXY.out.1, HXY.out.2]; exact huv))
                  rw [show xs.toArray[k + k2]! = xs[k + k2]! by simp, HXY.out.1] at z
                  rw [show k + (k2 + 1) = k + k2 + 1 by omega]
                  simpa using z⟩
                have hkl : kk < dk.length := by rw [HDL.out]; omega
                obtain ⟨⟨o0, o1⟩, f0, f1⟩ := dep_cell (dep_own HO2.out) rfl kk hkl
                have p6 : (0 : Int) ≤ (kk : Int) := by omega
                have p7 : (kk : Int) < (xs.length : Int) := by rw [HDL.out] at hkl; omega
                have p8 : (k2 : Int) < ((xs.length - k : Nat) : Int) := by omega
                generalize dk[kk]! = od at o0 o1
                have OC : Aside0 (∀ j q, [Value.int .i64 od.f0, Value.int .i64 od.f1][j]? = some q → wr3.cell? ⟨g, ((kk : Int)).toNat * k83.sz + j, none⟩ = some q) := ⟨by
                  intro j q hj
                  have e : ((kk : Int)).toNat * k83.sz = kk * 2 := by rw [Int.toNat_natCast]; rfl
                  rw [e]
                  match j, hj with
                  | 0, hj => simp at hj; subst hj; exact o0
                  | 1, hj => simp at hj; subst hj; exact o1
                  | j + 2, hj => simp at hj⟩
                rw [q1]
                clear q1 huv HXY HI hkl o0 o1 f0 f1
                go_wp2_with ((with_reducible refine gate_store (p := 51) rfl ?_); refine Kd.R_store k83 (w0 := w00) w00.heap.size rfl rfl 83 (.tmp 51) (.tmp 50) rfl 83 (kk : Int) 0 dk u (.agg #[.int .i64 u.f0, .int .i64 u.f1]) [.int .i64 u.f0, .int .i64 u.f1] [.int .i64 od.f0, .int .i64 od.f1] (fun _ => True) (fun _ => False) rfl ?aA rfl rfl (by kernel_rfl) ?a1 HO2.out p6 ?aL rfl ?aC (Nat.le_refl 2) ?aM (fun _ hk => hk.elim) HB2.out ?_; (case aA => simp; rfl); (case a1 => intro q hq; simp at hq; rcases hq with rfl | rfl <;> rfl); (case aL => rw [HDL.out]; exact p7); (case aC => exact OC.out); (case aM => exact k83_mkM _ _ _ u); intro w1 ho hb hg; have HO3 := Aside0.mk ho; have HB3 := Aside0.mk hb; clear ho hb hg HO2 HB2 e0 e1)
                go_roundg (xs.length - (k + (k2 + 1)))
                case measure => omega
                case rel => exact ⟨kk + 1, k2 + 1, dk.set kk u, by go_num, by go_num, by omega, by omega, Nat.le_refl _, by rw [List.length_set]; exact HDL.out, ⟨by have z := HO3.out; simpa using z⟩, HB3, HI2⟩
            · have hltz2 : ¬ (k2 : Int) < ((xs.length - k : Nat) : Int) := by omega
              have hltz3 : decide (k2 < xs.length - k) = false := decide_eq_false (by omega)
              have hend : k + k2 = xs.length := by omega
              have hcl : ∀ ty, (Builtin.clear_ #[48] ty #[.slice (some ⟨g, kk * 2, none⟩) (xs.length - kk) (c - kk)]).run Try.prog wr = .ok (.tuple #[]) (wr.setCells g (kk * 2) (Builtin.zeroCells (Value.agg #[.int .i64 0, .int .i64 0]).cells (xs.length - kk)).toList) := by
                intro ty
                refine depClear wr _ _ ty _ Try.underlying48 Try.zeroValue83 g (kk * 2) _ _ (by omega) (depZeros _).2 ?_
                intro j hj
                rw [(depZeros _).1] at hj
                have hkl : kk + j / 2 < dk.length := by omega
                obtain ⟨⟨o0, o1⟩, f0, f1⟩ := dep_cell own.out rfl (kk + j / 2) hkl
                rcases Nat.mod_two_eq_zero_or_one j with r | r
                · rw [show kk * 2 + j = (kk + j / 2) * 2 by omega]
                  exact ⟨by rw [o0]; rfl, f0⟩
                · rw [show kk * 2 + j = (kk + j / 2) * 2 + 1 by omega]
                  exact ⟨by rw [o1]; rfl, f1⟩
              have HI2 := HI.out
              rw [hend] at HI2
              have hlen : (Lib.compact xs).length = kk := HI2.len
              have hdk : Lib.compact xs = dk.take kk := by
                apply List.ext_getElem?
                intro j
                by_cases hj : j < kk
                · have z := HI2.low j hj
                  have z2 : (Lib.compact xs)[j]? = some dk.toArray[j]! := z
                  rw [z2, List.getElem?_take, if_pos hj, List.getElem?_eq_getElem (by omega)]
                  simp [show j < dk.length by omega]
                · rw [List.getElem?_eq_none (by omega), List.getElem?_eq_none (by rw [List.length_take]; omega)]
              have own2 : wr.ownsRow w00.heap.size 83 2 (.slice (some ⟨g, 0, none⟩) kk c) kk ((Lib.compact xs).flatMap depC) := by
                have z := Srt.own_cut own.out (m := kk) (by omega) (by omega)
                have e : (dk.flatMap depC).take (kk * 2) = (Lib.compact xs).flatMap depC := by
                  rw [hdk]
                  have e2 := List.take_append_drop kk dk
                  conv => lhs; rw [← e2, List.flatMap_append]
                  exact List.take_left' (by rw [Srt.flat_len depC 2 (fun _ => rfl), List.length_take, Nat.min_eq_left (by omega)])
                rw [e] at z
                exact z
              have own3 := Aside0.mk (Srt.own_beyonds (Builtin.zeroCells (Value.agg #[.int .i64 0, .int .i64 0]).cells (xs.length - kk)).toList wr (kk * 2) own2 (Nat.le_refl _))
              have HB3 := Aside0.mk (Srt.below_cells (Kd.R_base HO.out g (by simp [Value.ownBlock])) (Builtin.zeroCells (Value.agg #[.int .i64 0, .int .i64 0]).cells (xs.length - kk)).toList wr (kk * 2) HB.out)
              have HLN := Aside0.mk hlen
              have hc2 := hcl
              have p6 : ¬ c = kk := by omega
              have p7 : (0 : Int) ≤ (kk : Int) := by omega
              have p8 : kk ≤ xs.length := by omega
              clear hcl HI HI2 hlen hdk own2 own HO HB hdl
              go_wp2
              go_ret
              rw [HLN.out]
              refine ⟨rfl, dep_R (by rw [HLN.out]; exact own3.out), HB3.out⟩
        · have q1 : decide (x = y) = false := decide_eq_false q
          have HA2 : Aside0 (∀ j, j < k + 1 → Lib.keeps xs.toArray j = true) := ⟨fun j hj => by
            by_cases e : j = k
            · subst e
              exact depKeeps_yes (by rw [HXY.out.1, HXY.out.2]; exact q)
            · exact HA.out j (by omega)⟩
          rw [q1]
          clear q q1 HXY HA
          go_wp2
          go_roundg (xs.length - (k + 1))
          case measure => omega
          case rel => exact ⟨k + 1, by omega, by omega, Nat.le_refl _, by go_num, HO2, HB2, HA2⟩
      · have hltz : ¬ (k : Int) < (xs.length : Int) := by omega
        have HL : Aside0 (Lib.compact xs = xs) := ⟨Lib.compact_all xs (fun j hj => HA.out j (by omega))⟩
        go_wp2
        go_ret
        rw [HL.out]
        exact ⟨rfl, HO.out, HB.out⟩
/-- dependencies between 0 and 127 -/
def DepB : Type := { p : S83 // depIn p = true }
instance : Inhabited DepB := ⟨⟨z83, by decide⟩⟩
def depCB (a : DepB) : List Value := depC a.1
def depCf (a b : DepB) : Int := if a.1.f0 = b.1.f0 then a.1.f1 - b.1.f1 else a.1.f0 - b.1.f0
theorem depB_bd (a : DepB) : 0 ≤ a.1.f0 ∧ a.1.f0 ≤ 127 ∧ 0 ≤ a.1.f1 ∧ a.1.f1 ≤ 127 := of_decide_eq_true a.2
theorem depLt (a b : DepB) : Go.Proofs.ltOf depCf a b = decide (a.1.f0 < b.1.f0 ∨ (a.1.f0 = b.1.f0 ∧ a.1.f1 < b.1.f1)) := by
  unfold Go.Proofs.ltOf depCf
  split <;> (congr 1; apply propext; omega)
theorem depSWO : Go.Sort.SWO (Go.Proofs.ltOf depCf) where
  irrefl x := by rw [depLt]; simp
  trans x y z h1 h2 := by rw [depLt] at *; simp only [decide_eq_true_eq] at *; omega
  ntrans x y z h1 h2 := by rw [depLt] at *; simp only [decide_eq_false_iff_not] at *; omega
theorem depTot (x y : DepB) (h1 : Go.Proofs.ltOf depCf x y = false) (h2 : Go.Proofs.ltOf depCf y x = false) : x = y := by
  rw [depLt] at h1 h2
  simp only [decide_eq_false_iff_not] at h1 h2
  have e0 : x.1.f0 = y.1.f0 := by omega
  have e1 : x.1.f1 = y.1.f1 := by omega
  have e : x.1 = y.1 := by
    cases hx : x.1; cases hy : y.1
    rw [hx, hy] at e0 e1
    simp only at e0 e1
    rw [e0, e1]
  exact Subtype.ext e
theorem depLeB (x y : DepB) : (!Go.Proofs.ltOf depCf y x) = depLe x.1 y.1 := by
  rw [depLt]
  unfold depLe
  by_cases h : y.1.f0 < x.1.f0 ∨ (y.1.f0 = x.1.f0 ∧ y.1.f1 < x.1.f1)
  · rw [decide_eq_true h, decide_eq_false (by omega)]; rfl
  · rw [decide_eq_false h, decide_eq_true (by omega)]; rfl
theorem depLift : ∀ xs : List S83, xs.all depIn = true → ∃ ys : List DepB, ys.map (·.1) = xs
  | [], _ => ⟨[], rfl⟩
  | x :: xs, h => by
    simp only [List.all_cons, Bool.and_eq_true] at h
    obtain ⟨ys, e⟩ := depLift xs h.2
    exact ⟨⟨x, h.1⟩ :: ys, by subst e; rfl⟩
theorem depCB_flat (ys : List DepB) : ys.flatMap depCB = (ys.map (·.1)).flatMap depC := by
  induction ys with
  | nil => rfl
  | cons y ys ih => rw [List.flatMap_cons, List.map_cons, List.flatMap_cons, ih]; rfl
/-- compareDepends, as a function value: it lays its two parameters' boxes -/
theorem depCmp (a b : DepB) (W : World) : Calls Try.prog 119 #[.agg #[.int .i64 a.1.f0, .int .i64 a.1.f1], .agg #[.int .i64 b.1.f0, .int .i64 b.1.f1]] W fun e w' => e = .returned (.int .i64 (depCf a b)) ∧ ∃ q os', w' = Go.Sort.grow (W.drewN q) os' := by
  have ha := depB_bd a
  have hb := depB_bd b
  unfold depCf
  generalize a.1.f0 = a0 at *
  generalize a.1.f1 = a1 at *
  generalize b.1.f0 = b0 at *
  generalize b.1.f1 = b1 at *
  by_cases h : a0 = b0
  · have h1 : (a0 == b0) = true := beq_iff_eq.2 h
    have h2 : (a0 != b0) = false := bne_eq_false_iff_eq.2 h
    rw [if_pos h]
    have HH := Aside0.mk h
    clear h
    go_enter Try.func119, Try.ntmps119
    go_wp2
    go_ret
    exact ⟨rfl, 0, _, by rw [Go.Sort.alloc_eq_grow, Go.Sort.alloc_eq_grow, Go.Sort.grow_grow]; rfl⟩
  · have h1 : (a0 == b0) = false := beq_eq_false_iff_ne.2 h
    have h2 : (a0 != b0) = true := bne_iff_ne.2 h
    rw [if_neg h]
    have HH := Aside0.mk h
    clear h
    go_enter Try.func119, Try.ntmps119
    go_wp2
    go_ret
    exact ⟨rfl, 0, _, by rw [Go.Sort.alloc_eq_grow, Go.Sort.alloc_eq_grow, Go.Sort.grow_grow]; rfl⟩
theorem impl_arranged.abs (A : Option Addr) (c : Nat) (xs rs : List S83) (hf : impl_arranged.f xs = some rs) (w00 w : World) (hB : Below w00.heap.size w00 w) (hO : Kd.R k83 83 w w00.heap.size (fun _ => True) (.slice A xs.length c) xs) :
    Calls Try.prog 88 #[.slice A xs.length c] w fun e w' => ∃ v : Value, e = .returned v ∧ Kd.R k83 83 w' w00.heap.size (fun _ => True) v rs ∧ Below w00.heap.size w00 w' := by
  unfold impl_arranged.f at hf
  by_cases hin : xs.all depIn = true
  · rw [if_pos hin] at hf
    by_cases hl : xs.length ≤ 100000000
    · rw [if_pos hl] at hf
      have hrs := Option.some.inj hf
      clear hf
      have HB := Aside0.mk hB
      have HO := Aside0.mk hO
      have hc : xs.length ≤ c := (Kd.R_reads' hO).2.1
      clear hB hO
      rcases Nat.eq_zero_or_pos xs.length with z | z
      · obtain rfl := List.length_eq_zero_iff.1 z
        rw [List.mergeSort_nil] at hrs
        have HR : Aside0 ([] = rs) := ⟨hrs⟩
        clear z hrs
        have hnone := fun W => AnyF.slices_SortFunc_none { Try.laysSortD with } A c (.func (.func 119) #[] #[]) W
        change ∀ W, Calls Try.prog 135 _ _ _ at hnone
        have HN := Aside0.mk hnone
        clear hnone
        have hemp : ∀ W, Calls Try.prog 136 #[.slice A 0 c] W fun e w' => e = .returned (.slice A 0 c) ∧ w' = W := by
          intro W
          go_enter Try.func136, Try.ntmps136
          go_wp2
          go_ret
          exact ⟨rfl, rfl⟩
        have HE := Aside0.mk hemp
        clear hemp
        go_enter Try.func88, Try.ntmps88
        go_wp2_with (first | (go_at_call 135; refine (HN.out _).mono ?_; rintro e w5 ⟨rfl, rfl⟩) | (go_at_call 136; refine (HE.out _).mono ?_; rintro e w6 ⟨rfl, rfl⟩))
        go_ret
        refine ⟨_, rfl, ?_, HB.out⟩
        rw [← HR.out]
        exact HO.out
      · obtain ⟨ys, hys⟩ := depLift xs hin
        have hyl : ys.length = xs.length := by rw [← hys, List.length_map]
        have own := dep_own HO.out
        obtain ⟨g, _, hA, _⟩ := Srt.own_slice own z
        subst hA
        have ownB : w.ownsRow w00.heap.size 83 2 (.slice (some ⟨g, 0, none⟩) ys.length c) ys.length (ys.flatMap depCB) := by
          rw [hyl, depCB_flat, hys]; exact own
        obtain ⟨hH, hg, hbg⟩ := Srt.holdsK depCB 2 (fun _ => rfl) (by omega) ownB (by omega)
        have eg : ∀ args w, (callFunc 119 args).run Try.prog w = .ok (.enter 119 args) w := fun args w => by kernel_rfl
        have hcon := AnyQ.slices_SortFunc_total Try.laysSortD 2 Try.isAgg83 Try.sizeOf83 depCB (fun _ => rfl) (fun x v hv => by simp [depCB, depC] at hv; rcases hv with rfl | rfl <;> rfl) depCf depSWO 119 #[] g 0 c ys.toArray w eg (fun _ _ _ _ x y => depCmp x y _) hH hg (by simp; omega) depTot
        change Calls Try.prog 135 _ _ _ at hcon
        rw [show ys.toArray.size = xs.length by simp [hyl]] at hcon
        obtain ⟨zs, hzs⟩ : ∃ zs, zs = ys.mergeSort fun x y => !Go.Proofs.ltOf depCf y x := ⟨_, rfl⟩
        have hzl : zs.length = ys.length := by rw [hzs, List.length_mergeSort]
        have hzm : zs.map (·.1) = xs.mergeSort depLe := by
          rw [hzs, ← hys]
          exact List.map_mergeSort (fun a _ b _ => depLeB a b)
        simp only [← hzs] at hcon
        have HC := Aside0.mk hcon
        have OB := Aside0.mk ownB
        have HZ := Aside0.mk hzm
        have HL : Aside0 (zs.length = ys.length ∧ 0 < ys.length) := ⟨hzl, by omega⟩
        have HR := Aside0.mk hrs
        clear hcon ownB hzs hzm hzl hyl hys hH own eg hrs z
        go_enter Try.func88, Try.ntmps88
        go_wp2_with (fail)
        refine (HC.out).mono ?_
        rintro e w5 ⟨rfl, n, os, hw⟩
        obtain ⟨o5, g5⟩ := Srt.putK depCB 2 (fun _ => rfl) (by omega) OB.out HL.out.2 HL.out.1 n os
        have hw2 : w5 = Go.Sort.grow (Go.Sort.putRowK depCB 2 (Go.Sort.ahead w n) g 0 zs.toArray) os := hw
        rw [← hw2, depCB_flat, HZ.out, show zs.length = (xs.mergeSort depLe).length by rw [← HZ.out, List.length_map]] at o5
        rw [← hw2] at g5
        have B5 := Below.grown HB.out g5 HB.out.size (fun k hk => by injection hk with hk; omega)
        have hcc := depCompact g c (xs.mergeSort depLe) w00 w5 B5 (dep_R o5)
        rw [List.length_mergeSort, HR.out] at hcc
        have HCC := Aside0.mk hcc
        clear hw hw2 o5 g5 B5 hcc HC OB HZ HL HR
        go_wp2_with (fail)
        refine (HCC.out).mono ?_
        rintro e w6 ⟨rfl, ho, hb⟩
        have HO6 := Aside0.mk ho
        have HB6 := Aside0.mk hb
        clear ho hb
        go_wp2_with (fail)
        go_ret
        exact ⟨_, rfl, HO6.out, HB6.out⟩
    · rw [if_neg hl] at hf; exact absurd hf (by simp)
  · rw [if_neg hin] at hf; exact absurd hf (by simp)



-- NOT PRINTED: function 117 (impl_Depend_117)


/-! ### impl_MergeDepends: function 61 (by hand) -/
theorem depGrow (n : Nat) (hn : n ≤ 100000000) (W : World) : Calls Try.prog 149 #[.slice none 0 0, .int .i64 n] W fun e w' => ∃ v : Value, e = .returned v ∧ Kd.R k83 83 w' W.heap.size (fun _ => True) v [] ∧ Below W.heap.size W w' := by
  rcases Nat.eq_zero_or_pos n with z | z
  · subst z
    refine (Any8.slices_Grow_room Try.laysGrowD none 0 0 0 W (by omega) (by omega) (by omega) (by omega)).mono ?_
    rintro e w' ⟨rfl, rfl⟩
    exact ⟨_, rfl, Kd.R_nil _ _ _ _ _, Below.refl _ _⟩
  · obtain ⟨i0, hi, hzz⟩ := Option.map_eq_some_iff.1 info83
    simp only [Prod.mk.injEq] at hzz
    obtain ⟨hz0, hz1, hz2⟩ := hzz
    have hg1 := grownCap_ge W (0 + n) 0 83
    have hg2 := grownCap_le_maxLen W (0 + n) 0 83 (by simp only [maxLen]; omega)
    refine (Any8.slices_Grow_grow Try.laysGrowD i0 (.agg #[.int .i64 0, .int .i64 0]) hi hz0 (by rw [hz1]; decide) none 0 0 n [] W (by omega) (by omega) (by rw [hz2]; omega) (by omega) (by simp) (fun _ => rfl) (fun a h => by cases h)).mono ?_
    rintro e w' ⟨rfl, rfl⟩
    have hb : Below W.heap.size W W.drew := (Below.refl _ _).drew
    refine ⟨_, rfl, ⟨fun _ _ => trivial, [], ?_, Reps.none _ _⟩, hb.alloc (Nat.le_refl _) _⟩
    exact World.ownsRow_made W.drew _ _ (Nat.le_refl _) hg2 (by
      simp only [Array.size_append, size_zeroCells]
      show 0 + (0 + n - 0) * 2 + (grownCap W (0 + n) 0 83 - (0 + n)) * 2 = grownCap W (0 + n) 0 83 * 2
      rw [Nat.sub_mul]
      have := Nat.mul_le_mul_right 2 hg1
      omega)
set_option maxHeartbeats 4000000 in
set_option maxRecDepth 100000 in
/-- slices.Concat of two slices -/
theorem depConcat (A1 : Option Addr) (c1 : Nat) (a : List S83) (A2 : Option Addr) (c2 : Nat) (b : List S83) (g : Nat) (hl : a.length + b.length ≤ 100000000) (w00 W : World) (hB : Below w00.heap.size w00 W) (hg : W.heap[g]? = some (.cells #[.slice A1 a.length c1, .slice A2 b.length c2] 48 (0, 0)))
    (hr1 : Kd.C k83 w00 A1 a.length a) (hc1 : a.length ≤ c1) (hr2 : Kd.C k83 w00 A2 b.length b) (hc2 : b.length ≤ c2) :
    Calls Try.prog 117 #[.slice (some ⟨g, 0, none⟩) 2 2] W fun e w' => ∃ v : Value, e = .returned v ∧ Kd.R k83 83 w' w00.heap.size (fun _ => True) v (a ++ b) ∧ Below w00.heap.size w00 w' := by
  have HB := Aside0.mk hB
  have HG := Aside0.mk hg
  have HR1 := Aside0.mk hr1
  have HR2 := Aside0.mk hr2
  have e0 : W.cell? ⟨g, 0, none⟩ = some (.slice A1 a.length c1) := (blk_cell hg 0).trans rfl
  have e1 : W.cell? ⟨g, 1, none⟩ = some (.slice A2 b.length c2) := (blk_cell hg 1).trans rfl
  have y1 : ¬ (a.length : Int) < 0 := by omega
  have y2 : ¬ (a.length : Int) + (b.length : Int) < 0 := by omega
  clear hB hg hr1 hr2
  go_enter Try.func117, Try.ntmps117
  go_wp2
  go_loopg [3, 11] 3 (fun kq s3 s11 wr => ∃ i : Nat, i ≤ 2 ∧ 2 - i < kq ∧ s11 = .int .i64 (i : Int) ∧ (i = 0 → s3 = .int .i64 0) ∧ (i = 1 → s3 = .int .i64 (a.length : Int)) ∧ (i = 2 → s3 = .int .i64 ((a.length + b.length : Nat) : Int)) ∧ wr = W)
  case atStart => exact ⟨0, by omega, by omega, rfl, fun _ => rfl, fun h => absurd h (by decide), fun h => absurd h (by decide), rfl⟩
  case round =>
    obtain ⟨i, hi, hgk, rfl, h0, h1, h2, rfl⟩ := hrel
    have hi3 : i = 0 ∨ i = 1 ∨ i = 2 := by omega
    rcases hi3 with rfl | rfl | rfl
    · obtain rfl := h0 rfl
      clear h0 h1 h2
      go_wp2
      go_roundg 2
      case measure => omega
      case rel => exact ⟨1, by omega, by omega, by go_num, fun h => absurd h (by decide), fun _ => by first | rfl | go_num, fun h => absurd h (by decide), rfl⟩
    · obtain rfl := h1 rfl
      clear h0 h1 h2
      go_wp2
      go_roundg 1
      case measure => omega
      case rel => exact ⟨2, by omega, by omega, by go_num, fun h => absurd h (by decide), fun h => absurd h (by decide), fun _ => by first | rfl | go_num, rfl⟩
    · obtain rfl := h2 rfl
      clear h0 h1 h2 e0 e1 y1 y2
      go_wp2_with (fail)
      refine (depGrow (a.length + b.length) hl _).mono ?_
      rintro e w1 ⟨v, rfl, ho, hb⟩
      have n1 := Aside0.mk (below_step HB.out hb)
      have n2 := Aside0.mk (blk_below HG.out hb)
      have HO := Aside0.mk (Kd.R_lower ho HB.out.size)
      clear HB HG hb ho
      go_wp2_with (fail)
      go_loopg [6, 27] 3 (fun kq s6 s27 wr => ∃ (i : Nat) (xs : List S83), i ≤ 2 ∧ 2 - i < kq ∧ s27 = .int .i64 (i : Int) ∧ (i = 0 → xs = []) ∧ (i = 1 → xs = a) ∧ (i = 2 → xs = a ++ b) ∧ Aside0 (Kd.R k83 83 wr w00.heap.size (fun _ => True) s6 xs) ∧ Aside0 (Below w00.heap.size w00 wr) ∧ Aside0 (wr.heap[g]? = some (.cells #[.slice A1 a.length c1, .slice A2 b.length c2] 48 (0, 0))))
      case atStart => exact ⟨0, [], by omega, by omega, rfl, fun _ => rfl, fun h => absurd h (by decide), fun h => absurd h (by decide), HO, n1, n2⟩
      case round =>
        clear HO n1 n2
        obtain ⟨i, xs, hi, hgk, rfl, h0, h1, h2, HO, HB, HG⟩ := hrel
        have hi3 : i = 0 ∨ i = 1 ∨ i = 2 := by omega
        obtain ⟨A3, c3, rfl, _, _⟩ := Kd.R_reads HO.out
        rcases hi3 with rfl | rfl | rfl
        · obtain rfl := h0 rfl
          clear h0 h1 h2
          have e0 : wr.cell? ⟨g, 0, none⟩ = some (.slice A1 a.length c1) := (blk_cell HG.out 0).trans rfl
          go_wp2_with ((with_reducible refine gate_builtin (b := .append) (xs := #[.tmp 31, .tmp 32]) rfl ?_); (try (refine gate_guard (by rfl) ?_; dsimp only)); at_builtin; refine Kd.R_append_rows k83 (Rr := Kd.K k83 wr) (w0 := w00) w00.heap.size rfl (.tmp 31) (.tmp 32) 48 83 (.agg #[.int .i64 0, .int .i64 0]) 16 rfl Try.underlying48 info83 rfl (by decide) (by omega) (.slice A3 ([] : List S83).length c3) [] a A1 a.length c1 (fun _ => True) (fun _ => False) rfl rfl ?aO ?aR ?aK (fun _ hk => hk.elim) (fun _ _ => trivial) ?aB ?aS ?aL ?_; (case aO => exact HO.out); (case aR => exact Kd.C_below HR1.out HB.out); (case aK => exact fun x cs h => by obtain rfl := k83_open h; exact k83_mkM _ _ _ x); (case aB => exact HB.out); (case aS => exact HB.out.size); (case aL => (simp only [List.length_nil]; omega)); intro v1 w1 ho hb hg hat; obtain ⟨A4, c4, rfl⟩ := Kd.R_slice ho; have n1 := Aside0.mk (blk_grown HG.out hg (Kd.R_ne HO.out HG.out (by decide))); have n2 := Aside0.mk ho; have n3 := Aside0.mk hb; clear HO HB HG ho hb hg hat e0)
          go_roundg 2
          case measure => omega
          case rel => exact ⟨1, a, by omega, by omega, by go_num, fun h => absurd h (by decide), fun _ => rfl, fun h => absurd h (by decide), ⟨by first | exact n2.out | simpa using n2.out⟩, n3, n1⟩
        · obtain rfl := h1 rfl
          clear h0 h1 h2
          have e1 : wr.cell? ⟨g, 1, none⟩ = some (.slice A2 b.length c2) := (blk_cell HG.out 1).trans rfl
          go_wp2_with ((with_reducible refine gate_builtin (b := .append) (xs := #[.tmp 31, .tmp 32]) rfl ?_); (try (refine gate_guard (by rfl) ?_; dsimp only)); at_builtin; refine Kd.R_append_rows k83 (Rr := Kd.K k83 wr) (w0 := w00) w00.heap.size rfl (.tmp 31) (.tmp 32) 48 83 (.agg #[.int .i64 0, .int .i64 0]) 16 rfl Try.underlying48 info83 rfl (by decide) (by omega) (.slice A3 xs.length c3) xs b A2 b.length c2 (fun _ => True) (fun _ => False) rfl rfl ?aO ?aR ?aK (fun _ hk => hk.elim) (fun _ _ => trivial) ?aB ?aS ?aL ?_; (case aO => exact HO.out); (case aR => exact Kd.C_below HR2.out HB.out); (case aK => exact fun x cs h => by obtain rfl := k83_open h; exact k83_mkM _ _ _ x); (case aB => exact HB.out); (case aS => exact HB.out.size); (case aL => omega); intro v1 w1 ho hb hg hat; obtain ⟨A4, c4, rfl⟩ := Kd.R_slice ho; have n1 := Aside0.mk (blk_grown HG.out hg (Kd.R_ne HO.out HG.out (by decide))); have n2 := Aside0.mk ho; have n3 := Aside0.mk hb; clear HO HB HG ho hb hg hat e1)
          go_roundg 1
          case measure => omega
          case rel => exact ⟨2, xs ++ b, by omega, by omega, by go_num, fun h => absurd h (by decide), fun h => absurd h (by decide), fun _ => rfl, ⟨by have z := n2.out; simp only [List.length_append] at z; exact z⟩, n3, n1⟩
        · obtain rfl := h2 rfl
          clear h0 h1 h2
          go_wp2
          go_ret
          exact ⟨_, rfl, HO.out, HB.out⟩

def impl_MergeDepends.f (k : Nat) (l0 : List S83) (l1 : List S83) : Option (List S83) := (impl_DependsOk.f k l0).bind fun a => (if a = true then ((impl_DependsOk.f k l1).bind fun b => (if b = true then (if l0.length + l1.length ≤ 100000000 then impl_arranged.f (l0 ++ l1) else none) else (some []))) else (some []))
theorem impl_MergeDepends.mono : ∀ a0 a1 k, LeO (impl_MergeDepends.f k a0 a1) (impl_MergeDepends.f (k + 1) a0 a1) := by
  intro a0 a1 k
  unfold impl_MergeDepends.f
  exact LeO.bind (impl_DependsOk.mono _ _) fun _ => LeO.ite (LeO.bind (impl_DependsOk.mono _ _) fun _ => LeO.refl _) (LeO.refl _)
set_option maxHeartbeats 4000000 in
set_option maxRecDepth 100000 in
theorem impl_MergeDepends.calls (k : Nat) (A0 : Option Addr) (c0 : Nat) (l0 : List S83) (A1 : Option Addr) (c1 : Nat) (l1 : List S83) (r : List S83) (w : World) (hr0 : Kd.C k83 w A0 l0.length l0) (hc0 : l0.length ≤ c0) (hr1 : Kd.C k83 w A1 l1.length l1) (hc1 : l1.length ≤ c1) (h : impl_MergeDepends.f k l0 l1 = some r) :
    Calls Try.prog 61 #[.slice A0 l0.length c0, .slice A1 l1.length c1] w fun e w' => ∃ v0_ : Value, e = .returned (v0_) ∧ Kd.R k83 83 w' w.heap.size (fun _ => True) v0_ r ∧ Below w.heap.size w w' := by
  have HR0 := Aside0.mk hr0
  have HR1 := Aside0.mk hr1
  unfold impl_MergeDepends.f at h
  obtain ⟨a, ha, h⟩ := Option.bind_eq_some_iff.1 h
  have HA := Aside0.mk ha
  have H := Aside0.mk h
  clear hr0 hr1 ha h
  go_enter Try.func61, Try.ntmps61
  go_wp2_with (fail)
  refine (impl_DependsOk.calls k A0 c0 l0 a _ HR0.out hc0 HA.out).mono ?_
  rintro e w1 ⟨rfl, hb⟩
  have HB := Aside0.mk hb
  clear hb HA
  cases a with
  | false =>
    have h := H.out
    rw [if_neg (by decide)] at h
    obtain rfl := Option.some.inj h
    clear H h
    go_wp2
    go_ret
    exact ⟨_, rfl, Kd.R_nil _ _ _ _ _, HB.out⟩
  | true =>
    have h := (if_pos rfl).symm.trans H.out
    clear H
    obtain ⟨b, hb, h⟩ := Option.bind_eq_some_iff.1 h
    have HBB := Aside0.mk hb
    have H := Aside0.mk h
    clear hb h
    go_wp2_with (fail)
    refine (impl_DependsOk.calls k A1 c1 l1 b _ (Kd.C_below HR1.out HB.out) hc1 HBB.out).mono ?_
    rintro e w2 ⟨rfl, hb⟩
    have HB2 := Aside0.mk (below_step HB.out hb)
    clear hb HBB HB
    cases b with
    | false =>
      have h := H.out
      rw [if_neg (by decide)] at h
      obtain rfl := Option.some.inj h
      clear H h
      go_wp2
      go_ret
      exact ⟨_, rfl, Kd.R_nil _ _ _ _ _, HB2.out⟩
    | true =>
      have h := (if_pos rfl).symm.trans H.out
      clear H
      by_cases hl : l0.length + l1.length ≤ 100000000
      · rw [if_pos hl] at h
        have H := Aside0.mk h
        clear h
        go_wp2_with (fail)
        refine (depConcat A0 c0 l0 A1 c1 l1 w2.heap.size hl w _ (below_alloc HB2.out _) (blk_new _ _) HR0.out hc0 HR1.out hc1).mono ?_
        rintro e w3 ⟨v, rfl, ho, hb⟩
        obtain ⟨A3, c3, rfl, _, _⟩ := Kd.R_reads ho
        have HO := Aside0.mk ho
        have HB3 := Aside0.mk hb
        clear ho hb HB2
        go_wp2_with (fail)
        have hcc := impl_arranged.abs A3 c3 (l0 ++ l1) r H.out w w3 HB3.out HO.out
        rw [List.length_append] at hcc
        refine hcc.mono ?_
        clear hcc
        rintro e w4 ⟨v, rfl, ho, hb⟩
        obtain ⟨A4, c4, rfl, _, _⟩ := Kd.R_reads ho
        have HO4 := Aside0.mk ho
        have HB4 := Aside0.mk hb
        clear ho hb HO HB3
        go_wp2_with (fail)
        go_ret
        exact ⟨_, rfl, HO4.out, HB4.out⟩
      · rw [if_neg hl] at h
        exact absurd h (by simp)



/-! ### laws_FnExactMergeDepends: function 11 -/
def laws_FnExactMergeDepends.j0 : Nat → List (S104) → List (S104) → List (S83) → List (S83) → Bool → Option (Bool)
  | 0, _, _, _, _, _ => none
  | k + 1, x0, x1, x6, x9, x63 => if x63 = true then (some false) else ((laws_markDependS.f k x9 1).bind fun bt245 => ((laws_heldDependS.f k bt245.2 1).bind fun t247 => (if t247 < 0 then (some false) else (if t247 = bt245.1 then ((laws_toDependS.f k x0).bind fun t248 => ((laws_toDependS.f k x1).bind fun t251 => ((impl_MergeDepends.f k t248 t251).bind fun t254 => ((laws_eqDependS.f k t254 x6).bind fun t257 => (if t257 = true then ((laws_heldDependS.f k bt245.2 1).bind fun t258 => (if t258 < 0 then (some false) else (if t258 = bt245.1 then (some true) else (some false)))) else (some false)))))) else (some false)))))
def laws_FnExactMergeDepends.f (k : Nat) (l0 : List (S104)) (l1 : List (S104)) : Option (Bool) := (laws_szDependS.f l0 1048576).bind fun t211 => (if t211 < 0 then (some true) else ((laws_szDependS.f l1 t211).bind fun t212 => (if t212 < 0 then (some true) else ((laws_toDependS.f k l0).bind fun t213 => ((laws_toDependS.f k l1).bind fun t216 => ((spec_MergeDepends.f k t213 t216).bind fun t219 => ((laws_toDependS.f k l0).bind fun t222 => ((laws_toDependS.f k l1).bind fun t225 => ((impl_MergeDepends.f k t222 t225).bind fun t228 => ((laws_eqDependS.f k t228 t219).bind fun t231 => (if t231 = true then ((laws_toDependS.f k l0).bind fun t232 => ((laws_eqDependS.f k t222 t232).bind fun t235 => (if t235 = true then ((laws_toDependS.f k l1).bind fun t236 => ((laws_eqDependS.f k t225 t236).bind fun t239 => (if t239 = true then ((laws_markDependS.f k t222 1).bind fun bt240 => ((laws_markDependS.f k t225 bt240.1).bind fun bt242 => (if bt242.1 < 0 then (laws_FnExactMergeDepends.j0 k l0 l1 t219 t228 true) else ((laws_eqDependS.f k t228 t219).bind fun t244 => (laws_FnExactMergeDepends.j0 k l0 l1 t219 t228 (!t244)))))) else (some false)))) else (some false)))) else (some false))))))))))))
theorem laws_FnExactMergeDepends.mono_l : ∀ k, (∀ y0 y1 y2 y3 y4, LeO (laws_FnExactMergeDepends.j0 k y0 y1 y2 y3 y4) (laws_FnExactMergeDepends.j0 (k + 1) y0 y1 y2 y3 y4))
  | 0 => fun _ _ _ _ _ r h => by simp [laws_FnExactMergeDepends.j0] at h
  | k + 1 => by
    have ih0 := laws_FnExactMergeDepends.mono_l k
    · intro y0 y1 y2 y3 y4
      unfold laws_FnExactMergeDepends.j0
      repeat' first
      | (with_reducible exact ih0 _ _ _ _ _)
      | (with_reducible exact impl_MergeDepends.mono _ _ _)
      | (with_reducible exact laws_eqDependS.mono _ _ _)
      | (with_reducible exact laws_heldDependS.mono _ _ _)
      | (with_reducible exact laws_markDependS.mono _ _ _)
      | (with_reducible exact laws_toDependS.mono _ _)
      | (with_reducible exact spec_MergeDepends.mono _ _ _)
      | (with_reducible exact LeO.refl _)
      | (with_reducible exact LeO.none _)
      | (with_reducible refine LeO.ite ?_ ?_)
      | (with_reducible refine LeO.bind ?_ (fun _ => ?_))
      | exact ih0 _ _ _ _ _
      | exact impl_MergeDepends.mono _ _ _
      | exact laws_eqDependS.mono _ _ _
      | exact laws_heldDependS.mono _ _ _
      | exact laws_markDependS.mono _ _ _
      | exact laws_toDependS.mono _ _
      | exact spec_MergeDepends.mono _ _ _
      | exact LeO.none _
      | refine LeO.ite ?_ ?_
      | refine LeO.bind ?_ (fun _ => ?_)
theorem laws_FnExactMergeDepends.mono : ∀ a0 a1 k, LeO (laws_FnExactMergeDepends.f k a0 a1) (laws_FnExactMergeDepends.f (k + 1) a0 a1) := by
  intro a0 a1 k
  have ih0 := laws_FnExactMergeDepends.mono_l k
  unfold laws_FnExactMergeDepends.f
  repeat' first
      | (with_reducible exact ih0 _ _ _ _ _)
      | (with_reducible exact impl_MergeDepends.mono _ _ _)
      | (with_reducible exact laws_eqDependS.mono _ _ _)
      | (with_reducible exact laws_heldDependS.mono _ _ _)
      | (with_reducible exact laws_markDependS.mono _ _ _)
      | (with_reducible exact laws_toDependS.mono _ _)
      | (with_reducible exact spec_MergeDepends.mono _ _ _)
      | (with_reducible exact LeO.refl _)
      | (with_reducible exact LeO.none _)
      | (with_reducible refine LeO.ite ?_ ?_)
      | (with_reducible refine LeO.bind ?_ (fun _ => ?_))
      | exact ih0 _ _ _ _ _
      | exact impl_MergeDepends.mono _ _ _
      | exact laws_eqDependS.mono _ _ _
      | exact laws_heldDependS.mono _ _ _
      | exact laws_markDependS.mono _ _ _
      | exact laws_toDependS.mono _ _
      | exact spec_MergeDepends.mono _ _ _
      | exact LeO.none _
      | refine LeO.ite ?_ ?_
      | refine LeO.bind ?_ (fun _ => ?_)
set_option maxHeartbeats 8000000 in
set_option maxRecDepth 100000 in
theorem laws_FnExactMergeDepends.calls (k : Nat) (A0 : Option Addr) (c0 : Nat) (l0 : List (S104)) (A1 : Option Addr) (c1 : Nat) (l1 : List (S104)) (r : Bool) (w : World) (hr0 : Kd.C k104 w A0 l0.length l0) (hc0 : l0.length ≤ c0) (hr1 : Kd.C k104 w A1 l1.length l1) (hc1 : l1.length ≤ c1) (hrt0 : r = true) (h : laws_FnExactMergeDepends.f k l0 l1 = some r) :
    Calls Try.prog 11 #[.slice A0 l0.length c0, .slice A1 l1.length c1] w fun e w' => e = .returned (.bool r) ∧ Below w.heap.size w w' := by
  have HRT := Aside0.mk hrt0
  clear hrt0
  have HR0 := Aside0.mk hr0
  have HC0 := Aside0.mk hc0
  clear hr0 hc0
  have HR1 := Aside0.mk hr1
  have HC1 := Aside0.mk hc1
  clear hr1 hc1
  have HB := Aside0.mk (Below.refl w.heap.size w)
  have H : ((laws_szDependS.f l0 1048576).bind fun t211 => (if t211 < 0 then (some true) else ((laws_szDependS.f l1 t211).bind fun t212 => (if t212 < 0 then (some true) else ((laws_toDependS.f k l0).bind fun t213 => ((laws_toDependS.f k l1).bind fun t216 => ((spec_MergeDepends.f k t213 t216).bind fun t219 => ((laws_toDependS.f k l0).bind fun t222 => ((laws_toDependS.f k l1).bind fun t225 => ((impl_MergeDepends.f k t222 t225).bind fun t228 => ((laws_eqDependS.f k t228 t219).bind fun t231 => (if t231 = true then ((laws_toDependS.f k l0).bind fun t232 => ((laws_eqDependS.f k t222 t232).bind fun t235 => (if t235 = true then ((laws_toDependS.f k l1).bind fun t236 => ((laws_eqDependS.f k t225 t236).bind fun t239 => (if t239 = true then ((laws_markDependS.f k t222 1).bind fun bt240 => ((laws_markDependS.f k t225 bt240.1).bind fun bt242 => (if bt242.1 < 0 then (laws_FnExactMergeDepends.j0 k l0 l1 t219 t228 true) else ((laws_eqDependS.f k t228 t219).bind fun t244 => (laws_FnExactMergeDepends.j0 k l0 l1 t219 t228 (!t244)))))) else (some false)))) else (some false)))) else (some false))))))))))))) = some r := h
  clear h
  replace H := Option.bind_eq_some_iff.mp H
  obtain ⟨t211, A30, H⟩ := H
  replace H : (if t211 < 0 then (some true) else ((laws_szDependS.f l1 t211).bind fun t212 => (if t212 < 0 then (some true) else ((laws_toDependS.f k l0).bind fun t213 => ((laws_toDependS.f k l1).bind fun t216 => ((spec_MergeDepends.f k t213 t216).bind fun t219 => ((laws_toDependS.f k l0).bind fun t222 => ((laws_toDependS.f k l1).bind fun t225 => ((impl_MergeDepends.f k t222 t225).bind fun t228 => ((laws_eqDependS.f k t228 t219).bind fun t231 => (if t231 = true then ((laws_toDependS.f k l0).bind fun t232 => ((laws_eqDependS.f k t222 t232).bind fun t235 => (if t235 = true then ((laws_toDependS.f k l1).bind fun t236 => ((laws_eqDependS.f k t225 t236).bind fun t239 => (if t239 = true then ((laws_markDependS.f k t222 1).bind fun bt240 => ((laws_markDependS.f k t225 bt240.1).bind fun bt242 => (if bt242.1 < 0 then (laws_FnExactMergeDepends.j0 k l0 l1 t219 t228 true) else ((laws_eqDependS.f k t228 t219).bind fun t244 => (laws_FnExactMergeDepends.j0 k l0 l1 t219 t228 (!t244)))))) else (some false)))) else (some false)))) else (some false)))))))))))) = some r := H
  have A3 := Aside0.mk A30
  clear A30
  by_cases c4 : t211 < 0
  · rw [if_pos c4] at H
    have c4b0 : decide (t211 < 0) = true := decide_eq_true c4
    clear c4
    obtain rfl := Option.some.inj H
    go_enter Try.func11, Try.ntmps11
    go_wp2_with (first | ((with_reducible refine gate_callee (f := 36) rfl ?_); refine goesL_ (some 16) rfl rfl Try.func36 (by kernel_rfl) rfl #[.slice A0 l0.length c0, .int .i64 1048576] rfl (by (try simp only [List.map_toArray, List.map_cons, List.map_nil]); first | done | rfl | (simp only [List.length_drop, List.length_take]; rfl)) ?_; (with_reducible refine (laws_szDependS.calls _ _ l0 1048576 t211 _ ?side1 ?side2 A3.out).mono ?_); (case side1 => repeat (first | exact HR0.out | (with_reducible refine Kd.C_alloc ?_ _) | (with_reducible refine Kd.C_drewN ?_ _) | (with_reducible refine Kd.C_drew ?_))); (case side2 => exact HC0.out); rintro e w' ⟨rfl, ⟨nd, rfl⟩⟩; refine ⟨_, rfl, ?_⟩))
    go_ret
    exact ⟨by first | rfl | (simp [errW_none, errW_some] <;> rfl) | (simp [*, errW_none, errW_some] <;> rfl), by repeat (first | (with_reducible first | exact HB.out | apply below_alloc | apply pw_below_drewN | apply below_drew1) | exact HB.out)⟩
  · rw [if_neg c4] at H
    have c4b0 : decide (t211 < 0) = false := decide_eq_false c4
    clear c4
    replace H := Option.bind_eq_some_iff.mp H
    obtain ⟨t212, A50, H⟩ := H
    replace H : (if t212 < 0 then (some true) else ((laws_toDependS.f k l0).bind fun t213 => ((laws_toDependS.f k l1).bind fun t216 => ((spec_MergeDepends.f k t213 t216).bind fun t219 => ((laws_toDependS.f k l0).bind fun t222 => ((laws_toDependS.f k l1).bind fun t225 => ((impl_MergeDepends.f k t222 t225).bind fun t228 => ((laws_eqDependS.f k t228 t219).bind fun t231 => (if t231 = true then ((laws_toDependS.f k l0).bind fun t232 => ((laws_eqDependS.f k t222 t232).bind fun t235 => (if t235 = true then ((laws_toDependS.f k l1).bind fun t236 => ((laws_eqDependS.f k t225 t236).bind fun t239 => (if t239 = true then ((laws_markDependS.f k t222 1).bind fun bt240 => ((laws_markDependS.f k t225 bt240.1).bind fun bt242 => (if bt242.1 < 0 then (laws_FnExactMergeDepends.j0 k l0 l1 t219 t228 true) else ((laws_eqDependS.f k t228 t219).bind fun t244 => (laws_FnExactMergeDepends.j0 k l0 l1 t219 t228 (!t244)))))) else (some false)))) else (some false)))) else (some false)))))))))) = some r := H
    have A5 := Aside0.mk A50
    clear A50
    by_cases c6 : t212 < 0
    · rw [if_pos c6] at H
      have c6b0 : decide (t212 < 0) = true := decide_eq_true c6
      clear c6
      obtain rfl := Option.some.inj H
      go_enter Try.func11, Try.ntmps11
      go_wp2_with (first | ((with_reducible refine gate_callee (f := 36) rfl ?_); refine goesL_ (some 16) rfl rfl Try.func36 (by kernel_rfl) rfl #[.slice A0 l0.length c0, .int .i64 1048576] rfl (by (try simp only [List.map_toArray, List.map_cons, List.map_nil]); first | done | rfl | (simp only [List.length_drop, List.length_take]; rfl)) ?_; (with_reducible refine (laws_szDependS.calls _ _ l0 1048576 t211 _ ?side1 ?side2 A3.out).mono ?_); (case side1 => repeat (first | exact HR0.out | (with_reducible refine Kd.C_alloc ?_ _) | (with_reducible refine Kd.C_drewN ?_ _) | (with_reducible refine Kd.C_drew ?_))); (case side2 => exact HC0.out); rintro e w' ⟨rfl, ⟨nd, rfl⟩⟩; refine ⟨_, rfl, ?_⟩) | ((with_reducible refine gate_callee (f := 36) rfl ?_); refine goesL_ (some 21) rfl rfl Try.func36 (by kernel_rfl) rfl #[.slice A1 l1.length c1, .int .i64 t211] rfl (by (try simp only [List.map_toArray, List.map_cons, List.map_nil]); first | done | rfl | (simp only [List.length_drop, List.length_take]; rfl)) ?_; (with_reducible refine (laws_szDependS.calls _ _ l1 t211 t212 _ ?side1 ?side2 A5.out).mono ?_); (case side1 => repeat (first | exact HR1.out | (with_reducible refine Kd.C_alloc ?_ _) | (with_reducible refine Kd.C_drewN ?_ _) | (with_reducible refine Kd.C_drew ?_))); (case side2 => exact HC1.out); rintro e w' ⟨rfl, ⟨nd, rfl⟩⟩; refine ⟨_, rfl, ?_⟩))
      go_ret
      exact ⟨by first | rfl | (simp [errW_none, errW_some] <;> rfl) | (simp [*, errW_none, errW_some] <;> rfl), by repeat (first | (with_reducible first | exact HB.out | apply below_alloc | apply pw_below_drewN | apply below_drew1) | exact HB.out)⟩
    · rw [if_neg c6] at H
      have c6b0 : decide (t212 < 0) = false := decide_eq_false c6
      clear c6
      replace H := Option.bind_eq_some_iff.mp H
      obtain ⟨t213, A70, H⟩ := H
      replace H : ((laws_toDependS.f k l1).bind fun t216 => ((spec_MergeDepends.f k t213 t216).bind fun t219 => ((laws_toDependS.f k l0).bind fun t222 => ((laws_toDependS.f k l1).bind fun t225 => ((impl_MergeDepends.f k t222 t225).bind fun t228 => ((laws_eqDependS.f k t228 t219).bind fun t231 => (if t231 = true then ((laws_toDependS.f k l0).bind fun t232 => ((laws_eqDependS.f k t222 t232).bind fun t235 => (if t235 = true then ((laws_toDependS.f k l1).bind fun t236 => ((laws_eqDependS.f k t225 t236).bind fun t239 => (if t239 = true then ((laws_markDependS.f k t222 1).bind fun bt240 => ((laws_markDependS.f k t225 bt240.1).bind fun bt242 => (if bt242.1 < 0 then (laws_FnExactMergeDepends.j0 k l0 l1 t219 t228 true) else ((laws_eqDependS.f k t228 t219).bind fun t244 => (laws_FnExactMergeDepends.j0 k l0 l1 t219 t228 (!t244)))))) else (some false)))) else (some false)))) else (some false)))))))) = some r := H
      have A7 := Aside0.mk A70
      clear A70
      replace H := Option.bind_eq_some_iff.mp H
      obtain ⟨t216, A80, H⟩ := H
      replace H : ((spec_MergeDepends.f k t213 t216).bind fun t219 => ((laws_toDependS.f k l0).bind fun t222 => ((laws_toDependS.f k l1).bind fun t225 => ((impl_MergeDepends.f k t222 t225).bind fun t228 => ((laws_eqDependS.f k t228 t219).bind fun t231 => (if t231 = true then ((laws_toDependS.f k l0).bind fun t232 => ((laws_eqDependS.f k t222 t232).bind fun t235 => (if t235 = true then ((laws_toDependS.f k l1).bind fun t236 => ((laws_eqDependS.f k t225 t236).bind fun t239 => (if t239 = true then ((laws_markDependS.f k t222 1).bind fun bt240 => ((laws_markDependS.f k t225 bt240.1).bind fun bt242 => (if bt242.1 < 0 then (laws_FnExactMergeDepends.j0 k l0 l1 t219 t228 true) else ((laws_eqDependS.f k t228 t219).bind fun t244 => (laws_FnExactMergeDepends.j0 k l0 l1 t219 t228 (!t244)))))) else (some false)))) else (some false)))) else (some false))))))) = some r := H
      have A8 := Aside0.mk A80
      clear A80
      replace H := Option.bind_eq_some_iff.mp H
      obtain ⟨t219, A90, H⟩ := H
      replace H : ((laws_toDependS.f k l0).bind fun t222 => ((laws_toDependS.f k l1).bind fun t225 => ((impl_MergeDepends.f k t222 t225).bind fun t228 => ((laws_eqDependS.f k t228 t219).bind fun t231 => (if t231 = true then ((laws_toDependS.f k l0).bind fun t232 => ((laws_eqDependS.f k t222 t232).bind fun t235 => (if t235 = true then ((laws_toDependS.f k l1).bind fun t236 => ((laws_eqDependS.f k t225 t236).bind fun t239 => (if t239 = true then ((laws_markDependS.f k t222 1).bind fun bt240 => ((laws_markDependS.f k t225 bt240.1).bind fun bt242 => (if bt242.1 < 0 then (laws_FnExactMergeDepends.j0 k l0 l1 t219 t228 true) else ((laws_eqDependS.f k t228 t219).bind fun t244 => (laws_FnExactMergeDepends.j0 k l0 l1 t219 t228 (!t244)))))) else (some false)))) else (some false)))) else (some false)))))) = some r := H
      have A9 := Aside0.mk A90
      clear A90
      replace H := Option.bind_eq_some_iff.mp H
      obtain ⟨t222, A100, H⟩ := H
      replace H : ((laws_toDependS.f k l1).bind fun t225 => ((impl_MergeDepends.f k t222 t225).bind fun t228 => ((laws_eqDependS.f k t228 t219).bind fun t231 => (if t231 = true then ((laws_toDependS.f k l0).bind fun t232 => ((laws_eqDependS.f k t222 t232).bind fun t235 => (if t235 = true then ((laws_toDependS.f k l1).bind fun t236 => ((laws_eqDependS.f k t225 t236).bind fun t239 => (if t239 = true then ((laws_markDependS.f k t222 1).bind fun bt240 => ((laws_markDependS.f k t225 bt240.1).bind fun bt242 => (if bt242.1 < 0 then (laws_FnExactMergeDepends.j0 k l0 l1 t219 t228 true) else ((laws_eqDependS.f k t228 t219).bind fun t244 => (laws_FnExactMergeDepends.j0 k l0 l1 t219 t228 (!t244)))))) else (some false)))) else (some false)))) else (some false))))) = some r := H
      have A10 := Aside0.mk A100
      clear A100
      replace H := Option.bind_eq_some_iff.mp H
      obtain ⟨t225, A110, H⟩ := H
      replace H : ((impl_MergeDepends.f k t222 t225).bind fun t228 => ((laws_eqDependS.f k t228 t219).bind fun t231 => (if t231 = true then ((laws_toDependS.f k l0).bind fun t232 => ((laws_eqDependS.f k t222 t232).bind fun t235 => (if t235 = true then ((laws_toDependS.f k l1).bind fun t236 => ((laws_eqDependS.f k t225 t236).bind fun t239 => (if t239 = true then ((laws_markDependS.f k t222 1).bind fun bt240 => ((laws_markDependS.f k t225 bt240.1).bind fun bt242 => (if bt242.1 < 0 then (laws_FnExactMergeDepends.j0 k l0 l1 t219 t228 true) else ((laws_eqDependS.f k t228 t219).bind fun t244 => (laws_FnExactMergeDepends.j0 k l0 l1 t219 t228 (!t244)))))) else (some false)))) else (some false)))) else (some false)))) = some r := H
      have A11 := Aside0.mk A110
      clear A110
      replace H := Option.bind_eq_some_iff.mp H
      obtain ⟨t228, A120, H⟩ := H
      replace H : ((laws_eqDependS.f k t228 t219).bind fun t231 => (if t231 = true then ((laws_toDependS.f k l0).bind fun t232 => ((laws_eqDependS.f k t222 t232).bind fun t235 => (if t235 = true then ((laws_toDependS.f k l1).bind fun t236 => ((laws_eqDependS.f k t225 t236).bind fun t239 => (if t239 = true then ((laws_markDependS.f k t222 1).bind fun bt240 => ((laws_markDependS.f k t225 bt240.1).bind fun bt242 => (if bt242.1 < 0 then (laws_FnExactMergeDepends.j0 k l0 l1 t219 t228 true) else ((laws_eqDependS.f k t228 t219).bind fun t244 => (laws_FnExactMergeDepends.j0 k l0 l1 t219 t228 (!t244)))))) else (some false)))) else (some false)))) else (some false))) = some r := H
      have A12 := Aside0.mk A120
      clear A120
      replace H := Option.bind_eq_some_iff.mp H
      obtain ⟨t231, A130, H⟩ := H
      replace H : (if t231 = true then ((laws_toDependS.f k l0).bind fun t232 => ((laws_eqDependS.f k t222 t232).bind fun t235 => (if t235 = true then ((laws_toDependS.f k l1).bind fun t236 => ((laws_eqDependS.f k t225 t236).bind fun t239 => (if t239 = true then ((laws_markDependS.f k t222 1).bind fun bt240 => ((laws_markDependS.f k t225 bt240.1).bind fun bt242 => (if bt242.1 < 0 then (laws_FnExactMergeDepends.j0 k l0 l1 t219 t228 true) else ((laws_eqDependS.f k t228 t219).bind fun t244 => (laws_FnExactMergeDepends.j0 k l0 l1 t219 t228 (!t244)))))) else (some false)))) else (some false)))) else (some false)) = some r := H
      have A13 := Aside0.mk A130
      clear A130
      by_cases c14 : t231 = true
      · subst c14
        have H1 : ((laws_toDependS.f k l0).bind fun t232 => ((laws_eqDependS.f k t222 t232).bind fun t235 => (if t235 = true then ((laws_toDependS.f k l1).bind fun t236 => ((laws_eqDependS.f k t225 t236).bind fun t239 => (if t239 = true then ((laws_markDependS.f k t222 1).bind fun bt240 => ((laws_markDependS.f k t225 bt240.1).bind fun bt242 => (if bt242.1 < 0 then (laws_FnExactMergeDepends.j0 k l0 l1 t219 t228 true) else ((laws_eqDependS.f k t228 t219).bind fun t244 => (laws_FnExactMergeDepends.j0 k l0 l1 t219 t228 (!t244)))))) else (some false)))) else (some false)))) = some r := by rw [if_pos rfl] at H; exact H
        clear H
        have H := H1
        clear H1
        replace H := Option.bind_eq_some_iff.mp H
        obtain ⟨t232, A150, H⟩ := H
        replace H : ((laws_eqDependS.f k t222 t232).bind fun t235 => (if t235 = true then ((laws_toDependS.f k l1).bind fun t236 => ((laws_eqDependS.f k t225 t236).bind fun t239 => (if t239 = true then ((laws_markDependS.f k t222 1).bind fun bt240 => ((laws_markDependS.f k t225 bt240.1).bind fun bt242 => (if bt242.1 < 0 then (laws_FnExactMergeDepends.j0 k l0 l1 t219 t228 true) else ((laws_eqDependS.f k t228 t219).bind fun t244 => (laws_FnExactMergeDepends.j0 k l0 l1 t219 t228 (!t244)))))) else (some false)))) else (some false))) = some r := H
        have A15 := Aside0.mk A150
        clear A150
        replace H := Option.bind_eq_some_iff.mp H
        obtain ⟨t235, A160, H⟩ := H
        replace H : (if t235 = true then ((laws_toDependS.f k l1).bind fun t236 => ((laws_eqDependS.f k t225 t236).bind fun t239 => (if t239 = true then ((laws_markDependS.f k t222 1).bind fun bt240 => ((laws_markDependS.f k t225 bt240.1).bind fun bt242 => (if bt242.1 < 0 then (laws_FnExactMergeDepends.j0 k l0 l1 t219 t228 true) else ((laws_eqDependS.f k t228 t219).bind fun t244 => (laws_FnExactMergeDepends.j0 k l0 l1 t219 t228 (!t244)))))) else (some false)))) else (some false)) = some r := H
        have A16 := Aside0.mk A160
        clear A160
        by_cases c17 : t235 = true
        · subst c17
          have H1 : ((laws_toDependS.f k l1).bind fun t236 => ((laws_eqDependS.f k t225 t236).bind fun t239 => (if t239 = true then ((laws_markDependS.f k t222 1).bind fun bt240 => ((laws_markDependS.f k t225 bt240.1).bind fun bt242 => (if bt242.1 < 0 then (laws_FnExactMergeDepends.j0 k l0 l1 t219 t228 true) else ((laws_eqDependS.f k t228 t219).bind fun t244 => (laws_FnExactMergeDepends.j0 k l0 l1 t219 t228 (!t244)))))) else (some false)))) = some r := by rw [if_pos rfl] at H; exact H
          clear H
          have H := H1
          clear H1
          replace H := Option.bind_eq_some_iff.mp H
          obtain ⟨t236, A180, H⟩ := H
          replace H : ((laws_eqDependS.f k t225 t236).bind fun t239 => (if t239 = true then ((laws_markDependS.f k t222 1).bind fun bt240 => ((laws_markDependS.f k t225 bt240.1).bind fun bt242 => (if bt242.1 < 0 then (laws_FnExactMergeDepends.j0 k l0 l1 t219 t228 true) else ((laws_eqDependS.f k t228 t219).bind fun t244 => (laws_FnExactMergeDepends.j0 k l0 l1 t219 t228 (!t244)))))) else (some false))) = some r := H
          have A18 := Aside0.mk A180
          clear A180
          replace H := Option.bind_eq_some_iff.mp H
          obtain ⟨t239, A190, H⟩ := H
          replace H : (if t239 = true then ((laws_markDependS.f k t222 1).bind fun bt240 => ((laws_markDependS.f k t225 bt240.1).bind fun bt242 => (if bt242.1 < 0 then (laws_FnExactMergeDepends.j0 k l0 l1 t219 t228 true) else ((laws_eqDependS.f k t228 t219).bind fun t244 => (laws_FnExactMergeDepends.j0 k l0 l1 t219 t228 (!t244)))))) else (some false)) = some r := H
          have A19 := Aside0.mk A190
          clear A190
          by_cases c20 : t239 = true
          · subst c20
            have H1 : ((laws_markDependS.f k t222 1).bind fun bt240 => ((laws_markDependS.f k t225 bt240.1).bind fun bt242 => (if bt242.1 < 0 then (laws_FnExactMergeDepends.j0 k l0 l1 t219 t228 true) else ((laws_eqDependS.f k t228 t219).bind fun t244 => (laws_FnExactMergeDepends.j0 k l0 l1 t219 t228 (!t244)))))) = some r := by rw [if_pos rfl] at H; exact H
            clear H
            have H := H1
            clear H1
            replace H := Option.bind_eq_some_iff.mp H
            obtain ⟨⟨t240, t241⟩, A210, H⟩ := H
            replace H : ((laws_markDependS.f k t225 t240).bind fun bt242 => (if bt242.1 < 0 then (laws_FnExactMergeDepends.j0 k l0 l1 t219 t228 true) else ((laws_eqDependS.f k t228 t219).bind fun t244 => (laws_FnExactMergeDepends.j0 k l0 l1 t219 t228 (!t244))))) = some r := H
            have A21 := Aside0.mk A210
            clear A210
            replace H := Option.bind_eq_some_iff.mp H
            obtain ⟨⟨t242, t243⟩, A220, H⟩ := H
            replace H : (if t242 < 0 then (laws_FnExactMergeDepends.j0 k l0 l1 t219 t228 true) else ((laws_eqDependS.f k t228 t219).bind fun t244 => (laws_FnExactMergeDepends.j0 k l0 l1 t219 t228 (!t244)))) = some r := H
            have A22 := Aside0.mk A220
            clear A220
            have HC23 := Aside0.mk H
            clear H
            go_enter Try.func11, Try.ntmps11
            go_upto_region 21 with (first | ((with_reducible refine gate_callee (f := 36) rfl ?_); refine goesL_ (some 16) rfl rfl Try.func36 (by kernel_rfl) rfl #[.slice A0 l0.length c0, .int .i64 1048576] rfl (by (try simp only [List.map_toArray, List.map_cons, List.map_nil]); first | done | rfl | (simp only [List.length_drop, List.length_take]; rfl)) ?_; (with_reducible refine (laws_szDependS.calls _ _ l0 1048576 t211 _ ?side1 ?side2 A3.out).mono ?_); (case side1 => repeat (first | exact HR0.out | (with_reducible refine Kd.C_alloc ?_ _) | (with_reducible refine Kd.C_drewN ?_ _) | (with_reducible refine Kd.C_drew ?_))); (case side2 => exact HC0.out); rintro e w' ⟨rfl, ⟨nd, rfl⟩⟩; refine ⟨_, rfl, ?_⟩) | ((with_reducible refine gate_callee (f := 36) rfl ?_); refine goesL_ (some 21) rfl rfl Try.func36 (by kernel_rfl) rfl #[.slice A1 l1.length c1, .int .i64 t211] rfl (by (try simp only [List.map_toArray, List.map_cons, List.map_nil]); first | done | rfl | (simp only [List.length_drop, List.length_take]; rfl)) ?_; (with_reducible refine (laws_szDependS.calls _ _ l1 t211 t212 _ ?side1 ?side2 A5.out).mono ?_); (case side1 => repeat (first | exact HR1.out | (with_reducible refine Kd.C_alloc ?_ _) | (with_reducible refine Kd.C_drewN ?_ _) | (with_reducible refine Kd.C_drew ?_))); (case side2 => exact HC1.out); rintro e w' ⟨rfl, ⟨nd, rfl⟩⟩; refine ⟨_, rfl, ?_⟩) | ((with_reducible refine gate_callee (f := 38) rfl ?_); refine goesL_ (some 25) rfl rfl Try.func38 (by kernel_rfl) rfl #[.slice A0 l0.length c0] rfl (by (try simp only [List.map_toArray, List.map_cons, List.map_nil]); first | done | rfl | (simp only [List.length_drop, List.length_take]; rfl)) ?_; (with_reducible refine (laws_toDependS.calls k _ _ l0 t213 _ ?side1 ?side2 A7.out).mono ?_); (case side1 => repeat (first | exact HR0.out | (with_reducible refine Kd.C_alloc ?_ _) | (with_reducible refine Kd.C_drewN ?_ _) | (with_reducible refine Kd.C_drew ?_))); (case side2 => exact HC0.out); rintro e w24 ⟨v214, rfl, ho0, hb⟩; refine ⟨_, rfl, ?_⟩; have n0_ := Aside0.mk (Kd.R_lower ho0 (below_size (by repeat (first | (with_reducible first | exact HB.out | apply below_alloc | apply pw_below_drewN | apply below_drew1) | exact HB.out)))); have n1_ := Aside0.mk (below_step (by repeat (first | (with_reducible first | exact HB.out | apply below_alloc | apply pw_below_drewN | apply below_drew1) | exact HB.out)) hb); clear HB; have HO215 := n0_; have HB := n1_; clear n0_ n1_; (try clear hb); (try clear hb2); (try clear hk); (try clear hi); (try clear ho0)) | ((with_reducible refine gate_callee (f := 38) rfl ?_); refine goesL_ (some 27) rfl rfl Try.func38 (by kernel_rfl) rfl #[.slice A1 l1.length c1] rfl (by (try simp only [List.map_toArray, List.map_cons, List.map_nil]); first | done | rfl | (simp only [List.length_drop, List.length_take]; rfl)) ?_; (with_reducible refine (laws_toDependS.calls k _ _ l1 t216 _ ?side1 ?side2 A8.out).mono ?_); (case side1 => repeat (first | exact (Kd.C_below HR1.out HB.out) | (with_reducible refine Kd.C_alloc ?_ _) | (with_reducible refine Kd.C_drewN ?_ _) | (with_reducible refine Kd.C_drew ?_))); (case side2 => exact HC1.out); rintro e w25 ⟨v217, rfl, ho0, hb⟩; refine ⟨_, rfl, ?_⟩; have n0_ := Aside0.mk (Kd.R_elder' (by (with_reducible repeat (first | apply Kd.R_alloc | apply Kd.R_drewN | apply Kd.R_drew)); exact HO215.out) (Kd.R_base ho0) hb); have n1_ := Aside0.mk (Kd.R_lower (Kd.R_new' ho0 (Kd.R_lt (by (with_reducible repeat (first | apply Kd.R_alloc | apply Kd.R_drewN | apply Kd.R_drew)); exact HO215.out))) (below_size (by repeat (first | (with_reducible first | exact HB.out | apply below_alloc | apply pw_below_drewN | apply below_drew1) | exact HB.out)))); have n2_ := Aside0.mk (below_step (by repeat (first | (with_reducible first | exact HB.out | apply below_alloc | apply pw_below_drewN | apply below_drew1) | exact HB.out)) hb); clear HO215; clear HB; have HO215 := n0_; have HO218 := n1_; have HB := n2_; clear n0_ n1_ n2_; (try clear hb); (try clear hb2); (try clear hk); (try clear hi); (try clear ho0); obtain ⟨Ao26, co26, eo26⟩ := Kd.R_slice HO215.out; subst eo26; obtain ⟨Ao27, co27, eo27⟩ := Kd.R_slice HO218.out; subst eo27) | ((with_reducible refine gate_callee (f := 60) rfl ?_); refine goesL_ (some 28) rfl rfl Try.func60 (by kernel_rfl) rfl #[.slice Ao26 t213.length co26, .slice Ao27 t216.length co27] rfl (by (try simp only [List.map_toArray, List.map_cons, List.map_nil]); first | done | rfl | (simp only [List.length_drop, List.length_take]; rfl)) ?_; (with_reducible refine (spec_MergeDepends.calls k _ _ t213 _ _ t216 t219 _ ?side1 ?side2 ?side3 ?side4 A9.out).mono ?_); (case side1 => repeat (first | exact (Kd.R_reads' HO215.out).2.2 | (with_reducible refine Kd.C_alloc ?_ _) | (with_reducible refine Kd.C_drewN ?_ _) | (with_reducible refine Kd.C_drew ?_))); (case side2 => exact (Kd.R_reads' HO215.out).2.1); (case side3 => repeat (first | exact (Kd.R_reads' HO218.out).2.2 | (with_reducible refine Kd.C_alloc ?_ _) | (with_reducible refine Kd.C_drewN ?_ _) | (with_reducible refine Kd.C_drew ?_))); (case side4 => exact (Kd.R_reads' HO218.out).2.1); rintro e w28 ⟨v220, rfl, ho0, hb⟩; refine ⟨_, rfl, ?_⟩; have n0_ := Aside0.mk (Kd.R_elder' (by (with_reducible repeat (first | apply Kd.R_alloc | apply Kd.R_drewN | apply Kd.R_drew)); exact HO215.out) (Kd.R_base ho0) hb); have n1_ := Aside0.mk (Kd.R_elder' (by (with_reducible repeat (first | apply Kd.R_alloc | apply Kd.R_drewN | apply Kd.R_drew)); exact HO218.out) (Kd.R_base ho0) hb); have n2_ := Aside0.mk (Kd.R_lower (Kd.R_new' (Kd.R_new' ho0 (Kd.R_lt (by (with_reducible repeat (first | apply Kd.R_alloc | apply Kd.R_drewN | apply Kd.R_drew)); exact HO215.out))) (Kd.R_lt (by (with_reducible repeat (first | apply Kd.R_alloc | apply Kd.R_drewN | apply Kd.R_drew)); exact HO218.out))) (below_size (by repeat (first | (with_reducible first | exact HB.out | apply below_alloc | apply pw_below_drewN | apply below_drew1) | exact HB.out)))); have n3_ := Aside0.mk (below_step (by repeat (first | (with_reducible first | exact HB.out | apply below_alloc | apply pw_below_drewN | apply below_drew1) | exact HB.out)) hb); clear HO215; clear HO218; clear HB; have HO215 := n0_; have HO218 := n1_; have HO221 := n2_; have HB := n3_; clear n0_ n1_ n2_ n3_; (try clear hb); (try clear hb2); (try clear hk); (try clear hi); (try clear ho0)) | ((with_reducible refine gate_callee (f := 38) rfl ?_); refine goesL_ (some 30) rfl rfl Try.func38 (by kernel_rfl) rfl #[.slice A0 l0.length c0] rfl (by (try simp only [List.map_toArray, List.map_cons, List.map_nil]); first | done | rfl | (simp only [List.length_drop, List.length_take]; rfl)) ?_; (with_reducible refine (laws_toDependS.calls k _ _ l0 t222 _ ?side1 ?side2 A10.out).mono ?_); (case side1 => repeat (first | exact (Kd.C_below HR0.out HB.out) | (with_reducible refine Kd.C_alloc ?_ _) | (with_reducible refine Kd.C_drewN ?_ _) | (with_reducible refine Kd.C_drew ?_))); (case side2 => exact HC0.out); rintro e w29 ⟨v223, rfl, ho0, hb⟩; refine ⟨_, rfl, ?_⟩; have n0_ := Aside0.mk (Kd.R_elder' (by (with_reducible repeat (first | apply Kd.R_alloc | apply Kd.R_drewN | apply Kd.R_drew)); exact HO215.out) (Kd.R_base ho0) hb); have n1_ := Aside0.mk (Kd.R_elder' (by (with_reducible repeat (first | apply Kd.R_alloc | apply Kd.R_drewN | apply Kd.R_drew)); exact HO218.out) (Kd.R_base ho0) hb); have n2_ := Aside0.mk (Kd.R_elder' (by (with_reducible repeat (first | apply Kd.R_alloc | apply Kd.R_drewN | apply Kd.R_drew)); exact HO221.out) (Kd.R_base ho0) hb); have n3_ := Aside0.mk (Kd.R_lower (Kd.R_new' (Kd.R_new' (Kd.R_new' ho0 (Kd.R_lt (by (with_reducible repeat (first | apply Kd.R_alloc | apply Kd.R_drewN | apply Kd.R_drew)); exact HO215.out))) (Kd.R_lt (by (with_reducible repeat (first | apply Kd.R_alloc | apply Kd.R_drewN | apply Kd.R_drew)); exact HO218.out))) (Kd.R_lt (by (with_reducible repeat (first | apply Kd.R_alloc | apply Kd.R_drewN | apply Kd.R_drew)); exact HO221.out))) (below_size (by repeat (first | (with_reducible first | exact HB.out | apply below_alloc | apply pw_below_drewN | apply below_drew1) | exact HB.out)))); have n4_ := Aside0.mk (below_step (by repeat (first | (with_reducible first | exact HB.out | apply below_alloc | apply pw_below_drewN | apply below_drew1) | exact HB.out)) hb); clear HO215; clear HO218; clear HO221; clear HB; have HO215 := n0_; have HO218 := n1_; have HO221 := n2_; have HO224 := n3_; have HB := n4_; clear n0_ n1_ n2_ n3_ n4_; (try clear hb); (try clear hb2); (try clear hk); (try clear hi); (try clear ho0)) | ((with_reducible refine gate_callee (f := 38) rfl ?_); refine goesL_ (some 32) rfl rfl Try.func38 (by kernel_rfl) rfl #[.slice A1 l1.length c1] rfl (by (try simp only [List.map_toArray, List.map_cons, List.map_nil]); first | done | rfl | (simp only [List.length_drop, List.length_take]; rfl)) ?_; (with_reducible refine (laws_toDependS.calls k _ _ l1 t225 _ ?side1 ?side2 A11.out).mono ?_); (case side1 => repeat (first | exact (Kd.C_below HR1.out HB.out) | (with_reducible refine Kd.C_alloc ?_ _) | (with_reducible refine Kd.C_drewN ?_ _) | (with_reducible refine Kd.C_drew ?_))); (case side2 => exact HC1.out); rintro e w30 ⟨v226, rfl, ho0, hb⟩; refine ⟨_, rfl, ?_⟩; have n0_ := Aside0.mk (Kd.R_elder' (by (with_reducible repeat (first | apply Kd.R_alloc | apply Kd.R_drewN | apply Kd.R_drew)); exact HO215.out) (Kd.R_base ho0) hb); have n1_ := Aside0.mk (Kd.R_elder' (by (with_reducible repeat (first | apply Kd.R_alloc | apply Kd.R_drewN | apply Kd.R_drew)); exact HO218.out) (Kd.R_base ho0) hb); have n2_ := Aside0.mk (Kd.R_elder' (by (with_reducible repeat (first | apply Kd.R_alloc | apply Kd.R_drewN | apply Kd.R_drew)); exact HO221.out) (Kd.R_base ho0) hb); have n3_ := Aside0.mk (Kd.R_elder' (by (with_reducible repeat (first | apply Kd.R_alloc | apply Kd.R_drewN | apply Kd.R_drew)); exact HO224.out) (Kd.R_base ho0) hb); have n4_ := Aside0.mk (Kd.R_lower (Kd.R_new' (Kd.R_new' (Kd.R_new' (Kd.R_new' ho0 (Kd.R_lt (by (with_reducible repeat (first | apply Kd.R_alloc | apply Kd.R_drewN | apply Kd.R_drew)); exact HO215.out))) (Kd.R_lt (by (with_reducible repeat (first | apply Kd.R_alloc | apply Kd.R_drewN | apply Kd.R_drew)); exact HO218.out))) (Kd.R_lt (by (with_reducible repeat (first | apply Kd.R_alloc | apply Kd.R_drewN | apply Kd.R_drew)); exact HO221.out))) (Kd.R_lt (by (with_reducible repeat (first | apply Kd.R_alloc | apply Kd.R_drewN | apply Kd.R_drew)); exact HO224.out))) (below_size (by repeat (first | (with_reducible first | exact HB.out | apply below_alloc | apply pw_below_drewN | apply below_drew1) | exact HB.out)))); have n5_ := Aside0.mk (below_step (by repeat (first | (with_reducible first | exact HB.out | apply below_alloc | apply pw_below_drewN | apply below_drew1) | exact HB.out)) hb); clear HO215; clear HO218; clear HO221; clear HO224; clear HB; have HO215 := n0_; have HO218 := n1_; have HO221 := n2_; have HO224 := n3_; have HO227 := n4_; have HB := n5_; clear n0_ n1_ n2_ n3_ n4_ n5_; (try clear hb); (try clear hb2); (try clear hk); (try clear hi); (try clear ho0); obtain ⟨Ao31, co31, eo31⟩ := Kd.R_slice HO224.out; subst eo31; obtain ⟨Ao32, co32, eo32⟩ := Kd.R_slice HO227.out; subst eo32) | ((with_reducible refine gate_callee (f := 61) rfl ?_); refine goesL_ (some 35) rfl rfl Try.func61 (by kernel_rfl) rfl #[.slice Ao31 t222.length co31, .slice Ao32 t225.length co32] rfl (by (try simp only [List.map_toArray, List.map_cons, List.map_nil]); first | done | rfl | (simp only [List.length_drop, List.length_take]; rfl)) ?_; (with_reducible refine (impl_MergeDepends.calls k _ _ t222 _ _ t225 t228 _ ?side1 ?side2 ?side3 ?side4 A12.out).mono ?_); (case side1 => repeat (first | exact (Kd.R_reads' HO224.out).2.2 | (with_reducible refine Kd.C_alloc ?_ _) | (with_reducible refine Kd.C_drewN ?_ _) | (with_reducible refine Kd.C_drew ?_))); (case side2 => exact (Kd.R_reads' HO224.out).2.1); (case side3 => repeat (first | exact (Kd.R_reads' HO227.out).2.2 | (with_reducible refine Kd.C_alloc ?_ _) | (with_reducible refine Kd.C_drewN ?_ _) | (with_reducible refine Kd.C_drew ?_))); (case side4 => exact (Kd.R_reads' HO227.out).2.1); rintro e w33 ⟨v229, rfl, ho0, hb⟩; refine ⟨_, rfl, ?_⟩; have n0_ := Aside0.mk (Kd.R_elder' (by (with_reducible repeat (first | apply Kd.R_alloc | apply Kd.R_drewN | apply Kd.R_drew)); exact HO215.out) (Kd.R_base ho0) hb); have n1_ := Aside0.mk (Kd.R_elder' (by (with_reducible repeat (first | apply Kd.R_alloc | apply Kd.R_drewN | apply Kd.R_drew)); exact HO218.out) (Kd.R_base ho0) hb); have n2_ := Aside0.mk (Kd.R_elder' (by (with_reducible repeat (first | apply Kd.R_alloc | apply Kd.R_drewN | apply Kd.R_drew)); exact HO221.out) (Kd.R_base ho0) hb); have n3_ := Aside0.mk (Kd.R_elder' (by (with_reducible repeat (first | apply Kd.R_alloc | apply Kd.R_drewN | apply Kd.R_drew)); exact HO224.out) (Kd.R_base ho0) hb); have n4_ := Aside0.mk (Kd.R_elder' (by (with_reducible repeat (first | apply Kd.R_alloc | apply Kd.R_drewN | apply Kd.R_drew)); exact HO227.out) (Kd.R_base ho0) hb); have n5_ := Aside0.mk (Kd.R_lower (Kd.R_new' (Kd.R_new' (Kd.R_new' (Kd.R_new' (Kd.R_new' ho0 (Kd.R_lt (by (with_reducible repeat (first | apply Kd.R_alloc | apply Kd.R_drewN | apply Kd.R_drew)); exact HO215.out))) (Kd.R_lt (by (with_reducible repeat (first | apply Kd.R_alloc | apply Kd.R_drewN | apply Kd.R_drew)); exact HO218.out))) (Kd.R_lt (by (with_reducible repeat (first | apply Kd.R_alloc | apply Kd.R_drewN | apply Kd.R_drew)); exact HO221.out))) (Kd.R_lt (by (with_reducible repeat (first | apply Kd.R_alloc | apply Kd.R_drewN | apply Kd.R_drew)); exact HO224.out))) (Kd.R_lt (by (with_reducible repeat (first | apply Kd.R_alloc | apply Kd.R_drewN | apply Kd.R_drew)); exact HO227.out))) (below_size (by repeat (first | (with_reducible first | exact HB.out | apply below_alloc | apply pw_below_drewN | apply below_drew1) | exact HB.out)))); have n6_ := Aside0.mk (below_step (by repeat (first | (with_reducible first | exact HB.out | apply below_alloc | apply pw_below_drewN | apply below_drew1) | exact HB.out)) hb); clear HO215; clear HO218; clear HO221; clear HO224; clear HO227; clear HB; have HO215 := n0_; have HO218 := n1_; have HO221 := n2_; have HO224 := n3_; have HO227 := n4_; have HO230 := n5_; have HB := n6_; clear n0_ n1_ n2_ n3_ n4_ n5_ n6_; (try clear hb); (try clear hb2); (try clear hk); (try clear hi); (try clear ho0); obtain ⟨Ao34, co34, eo34⟩ := Kd.R_slice HO230.out; subst eo34; obtain ⟨Ao35, co35, eo35⟩ := Kd.R_slice HO221.out; subst eo35) | ((with_reducible refine gate_callee (f := 33) rfl ?_); refine goesL_ (some 38) rfl rfl Try.func33 (by kernel_rfl) rfl #[.slice Ao34 t228.length co34, .slice Ao35 t219.length co35] rfl (by (try simp only [List.map_toArray, List.map_cons, List.map_nil]); first | done | rfl | (simp only [List.length_drop, List.length_take]; rfl)) ?_; (with_reducible refine (laws_eqDependS.calls k _ _ t228 _ _ t219 true _ ?side1 ?side2 ?side3 ?side4 A13.out).mono ?_); (case side1 => repeat (first | exact (Kd.R_reads' HO230.out).2.2 | (with_reducible refine Kd.C_alloc ?_ _) | (with_reducible refine Kd.C_drewN ?_ _) | (with_reducible refine Kd.C_drew ?_))); (case side2 => exact (Kd.R_reads' HO230.out).2.1); (case side3 => repeat (first | exact (Kd.R_reads' HO221.out).2.2 | (with_reducible refine Kd.C_alloc ?_ _) | (with_reducible refine Kd.C_drewN ?_ _) | (with_reducible refine Kd.C_drew ?_))); (case side4 => exact (Kd.R_reads' HO221.out).2.1); rintro e w36 ⟨rfl, hb⟩; refine ⟨_, rfl, ?_⟩; have n0_ := Aside0.mk (Kd.R_below (by (with_reducible repeat (first | apply Kd.R_alloc | apply Kd.R_drewN | apply Kd.R_drew)); exact HO215.out) hb); have n1_ := Aside0.mk (Kd.R_below (by (with_reducible repeat (first | apply Kd.R_alloc | apply Kd.R_drewN | apply Kd.R_drew)); exact HO218.out) hb); have n2_ := Aside0.mk (Kd.R_below (by (with_reducible repeat (first | apply Kd.R_alloc | apply Kd.R_drewN | apply Kd.R_drew)); exact HO221.out) hb); have n3_ := Aside0.mk (Kd.R_below (by (with_reducible repeat (first | apply Kd.R_alloc | apply Kd.R_drewN | apply Kd.R_drew)); exact HO224.out) hb); have n4_ := Aside0.mk (Kd.R_below (by (with_reducible repeat (first | apply Kd.R_alloc | apply Kd.R_drewN | apply Kd.R_drew)); exact HO227.out) hb); have n5_ := Aside0.mk (Kd.R_below (by (with_reducible repeat (first | apply Kd.R_alloc | apply Kd.R_drewN | apply Kd.R_drew)); exact HO230.out) hb); have n6_ := Aside0.mk (below_step (by repeat (first | (with_reducible first | exact HB.out | apply below_alloc | apply pw_below_drewN | apply below_drew1) | exact HB.out)) hb); clear HO215; clear HO218; clear HO221; clear HO224; clear HO227; clear HO230; clear HB; have HO215 := n0_; have HO218 := n1_; have HO221 := n2_; have HO224 := n3_; have HO227 := n4_; have HO230 := n5_; have HB := n6_; clear n0_ n1_ n2_ n3_ n4_ n5_ n6_; (try clear hb); (try clear hb2); (try clear hk); (try clear hi)) | ((with_reducible refine gate_callee (f := 38) rfl ?_); refine goesL_ (some 42) rfl rfl Try.func38 (by kernel_rfl) rfl #[.slice A0 l0.length c0] rfl (by (try simp only [List.map_toArray, List.map_cons, List.map_nil]); first | done | rfl | (simp only [List.length_drop, List.length_take]; rfl)) ?_; (with_reducible refine (laws_toDependS.calls k _ _ l0 t232 _ ?side1 ?side2 A15.out).mono ?_); (case side1 => repeat (first | exact (Kd.C_below HR0.out HB.out) | (with_reducible refine Kd.C_alloc ?_ _) | (with_reducible refine Kd.C_drewN ?_ _) | (with_reducible refine Kd.C_drew ?_))); (case side2 => exact HC0.out); rintro e w37 ⟨v233, rfl, ho0, hb⟩; refine ⟨_, rfl, ?_⟩; have n0_ := Aside0.mk (Kd.R_elder' (by (with_reducible repeat (first | apply Kd.R_alloc | apply Kd.R_drewN | apply Kd.R_drew)); exact HO215.out) (Kd.R_base ho0) hb); have n1_ := Aside0.mk (Kd.R_elder' (by (with_reducible repeat (first | apply Kd.R_alloc | apply Kd.R_drewN | apply Kd.R_drew)); exact HO218.out) (Kd.R_base ho0) hb); have n2_ := Aside0.mk (Kd.R_elder' (by (with_reducible repeat (first | apply Kd.R_alloc | apply Kd.R_drewN | apply Kd.R_drew)); exact HO221.out) (Kd.R_base ho0) hb); have n3_ := Aside0.mk (Kd.R_elder' (by (with_reducible repeat (first | apply Kd.R_alloc | apply Kd.R_drewN | apply Kd.R_drew)); exact HO224.out) (Kd.R_base ho0) hb); have n4_ := Aside0.mk (Kd.R_elder' (by (with_reducible repeat (first | apply Kd.R_alloc | apply Kd.R_drewN | apply Kd.R_drew)); exact HO227.out) (Kd.R_base ho0) hb); have n5_ := Aside0.mk (Kd.R_elder' (by (with_reducible repeat (first | apply Kd.R_alloc | apply Kd.R_drewN | apply Kd.R_drew)); exact HO230.out) (Kd.R_base ho0) hb); have n6_ := Aside0.mk (Kd.R_lower (Kd.R_new' (Kd.R_new' (Kd.R_new' (Kd.R_new' (Kd.R_new' (Kd.R_new' ho0 (Kd.R_lt (by (with_reducible repeat (first | apply Kd.R_alloc | apply Kd.R_drewN | apply Kd.R_drew)); exact HO215.out))) (Kd.R_lt (by (with_reducible repeat (first | apply Kd.R_alloc | apply Kd.R_drewN | apply Kd.R_drew)); exact HO218.out))) (Kd.R_lt (by (with_reducible repeat (first | apply Kd.R_alloc | apply Kd.R_drewN | apply Kd.R_drew)); exact HO221.out))) (Kd.R_lt (by (with_reducible repeat (first | apply Kd.R_alloc | apply Kd.R_drewN | apply Kd.R_drew)); exact HO224.out))) (Kd.R_lt (by (with_reducible repeat (first | apply Kd.R_alloc | apply Kd.R_drewN | apply Kd.R_drew)); exact HO227.out))) (Kd.R_lt (by (with_reducible repeat (first | apply Kd.R_alloc | apply Kd.R_drewN | apply Kd.R_drew)); exact HO230.out))) (below_size (by repeat (first | (with_reducible first | exact HB.out | apply below_alloc | apply pw_below_drewN | apply below_drew1) | exact HB.out)))); have n7_ := Aside0.mk (below_step (by repeat (first | (with_reducible first | exact HB.out | apply below_alloc | apply pw_below_drewN | apply below_drew1) | exact HB.out)) hb); clear HO215; clear HO218; clear HO221; clear HO224; clear HO227; clear HO230; clear HB; have HO215 := n0_; have HO218 := n1_; have HO221 := n2_; have HO224 := n3_; have HO227 := n4_; have HO230 := n5_; have HO234 := n6_; have HB := n7_; clear n0_ n1_ n2_ n3_ n4_ n5_ n6_ n7_; (try clear hb); (try clear hb2); (try clear hk); (try clear hi); (try clear ho0); obtain ⟨Ao38, co38, eo38⟩ := Kd.R_slice HO234.out; subst eo38) | ((with_reducible refine gate_callee (f := 33) rfl ?_); refine goesL_ (some 43) rfl rfl Try.func33 (by kernel_rfl) rfl #[.slice Ao31 t222.length co31, .slice Ao38 t232.length co38] rfl (by (try simp only [List.map_toArray, List.map_cons, List.map_nil]); first | done | rfl | (simp only [List.length_drop, List.length_take]; rfl)) ?_; (with_reducible refine (laws_eqDependS.calls k _ _ t222 _ _ t232 true _ ?side1 ?side2 ?side3 ?side4 A16.out).mono ?_); (case side1 => repeat (first | exact (Kd.R_reads' HO224.out).2.2 | (with_reducible refine Kd.C_alloc ?_ _) | (with_reducible refine Kd.C_drewN ?_ _) | (with_reducible refine Kd.C_drew ?_))); (case side2 => exact (Kd.R_reads' HO224.out).2.1); (case side3 => repeat (first | exact (Kd.R_reads' HO234.out).2.2 | (with_reducible refine Kd.C_alloc ?_ _) | (with_reducible refine Kd.C_drewN ?_ _) | (with_reducible refine Kd.C_drew ?_))); (case side4 => exact (Kd.R_reads' HO234.out).2.1); rintro e w39 ⟨rfl, hb⟩; refine ⟨_, rfl, ?_⟩; have n0_ := Aside0.mk (Kd.R_below (by (with_reducible repeat (first | apply Kd.R_alloc | apply Kd.R_drewN | apply Kd.R_drew)); exact HO215.out) hb); have n1_ := Aside0.mk (Kd.R_below (by (with_reducible repeat (first | apply Kd.R_alloc | apply Kd.R_drewN | apply Kd.R_drew)); exact HO218.out) hb); have n2_ := Aside0.mk (Kd.R_below (by (with_reducible repeat (first | apply Kd.R_alloc | apply Kd.R_drewN | apply Kd.R_drew)); exact HO221.out) hb); have n3_ := Aside0.mk (Kd.R_below (by (with_reducible repeat (first | apply Kd.R_alloc | apply Kd.R_drewN | apply Kd.R_drew)); exact HO224.out) hb); have n4_ := Aside0.mk (Kd.R_below (by (with_reducible repeat (first | apply Kd.R_alloc | apply Kd.R_drewN | apply Kd.R_drew)); exact HO227.out) hb); have n5_ := Aside0.mk (Kd.R_below (by (with_reducible repeat (first | apply Kd.R_alloc | apply Kd.R_drewN | apply Kd.R_drew)); exact HO230.out) hb); have n6_ := Aside0.mk (Kd.R_below (by (with_reducible repeat (first | apply Kd.R_alloc | apply Kd.R_drewN | apply Kd.R_drew)); exact HO234.out) hb); have n7_ := Aside0.mk (below_step (by repeat (first | (with_reducible first | exact HB.out | apply below_alloc | apply pw_below_drewN | apply below_drew1) | exact HB.out)) hb); clear HO215; clear HO218; clear HO221; clear HO224; clear HO227; clear HO230; clear HO234; clear HB; have HO215 := n0_; have HO218 := n1_; have HO221 := n2_; have HO224 := n3_; have HO227 := n4_; have HO230 := n5_; have HO234 := n6_; have HB := n7_; clear n0_ n1_ n2_ n3_ n4_ n5_ n6_ n7_; (try clear hb); (try clear hb2); (try clear hk); (try clear hi)) | ((with_reducible refine gate_callee (f := 38) rfl ?_); refine goesL_ (some 47) rfl rfl Try.func38 (by kernel_rfl) rfl #[.slice A1 l1.length c1] rfl (by (try simp only [List.map_toArray, List.map_cons, List.map_nil]); first | done | rfl | (simp only [List.length_drop, List.length_take]; rfl)) ?_; (with_reducible refine (laws_toDependS.calls k _ _ l1 t236 _ ?side1 ?side2 A18.out).mono ?_); (case side1 => repeat (first | exact (Kd.C_below HR1.out HB.out) | (with_reducible refine Kd.C_alloc ?_ _) | (with_reducible refine Kd.C_drewN ?_ _) | (with_reducible refine Kd.C_drew ?_))); (case side2 => exact HC1.out); rintro e w40 ⟨v237, rfl, ho0, hb⟩; refine ⟨_, rfl, ?_⟩; have n0_ := Aside0.mk (Kd.R_elder' (by (with_reducible repeat (first | apply Kd.R_alloc | apply Kd.R_drewN | apply Kd.R_drew)); exact HO215.out) (Kd.R_base ho0) hb); have n1_ := Aside0.mk (Kd.R_elder' (by (with_reducible repeat (first | apply Kd.R_alloc | apply Kd.R_drewN | apply Kd.R_drew)); exact HO218.out) (Kd.R_base ho0) hb); have n2_ := Aside0.mk (Kd.R_elder' (by (with_reducible repeat (first | apply Kd.R_alloc | apply Kd.R_drewN | apply Kd.R_drew)); exact HO221.out) (Kd.R_base ho0) hb); have n3_ := Aside0.mk (Kd.R_elder' (by (with_reducible repeat (first | apply Kd.R_alloc | apply Kd.R_drewN | apply Kd.R_drew)); exact HO224.out) (Kd.R_base ho0) hb); have n4_ := Aside0.mk (Kd.R_elder' (by (with_reducible repeat (first | apply Kd.R_alloc | apply Kd.R_drewN | apply Kd.R_drew)); exact HO227.out) (Kd.R_base ho0) hb); have n5_ := Aside0.mk (Kd.R_elder' (by (with_reducible repeat (first | apply Kd.R_alloc | apply Kd.R_drewN | apply Kd.R_drew)); exact HO230.out) (Kd.R_base ho0) hb); have n6_ := Aside0.mk (Kd.R_elder' (by (with_reducible repeat (first | apply Kd.R_alloc | apply Kd.R_drewN | apply Kd.R_drew)); exact HO234.out) (Kd.R_base ho0) hb); have n7_ := Aside0.mk (Kd.R_lower (Kd.R_new' (Kd.R_new' (Kd.R_new' (Kd.R_new' (Kd.R_new' (Kd.R_new' (Kd.R_new' ho0 (Kd.R_lt (by (with_reducible repeat (first | apply Kd.R_alloc | apply Kd.R_drewN | apply Kd.R_drew)); exact HO215.out))) (Kd.R_lt (by (with_reducible repeat (first | apply Kd.R_alloc | apply Kd.R_drewN | apply Kd.R_drew)); exact HO218.out))) (Kd.R_lt (by (with_reducible repeat (first | apply Kd.R_alloc | apply Kd.R_drewN | apply Kd.R_drew)); exact HO221.out))) (Kd.R_lt (by (with_reducible repeat (first | apply Kd.R_alloc | apply Kd.R_drewN | apply Kd.R_drew)); exact HO224.out))) (Kd.R_lt (by (with_reducible repeat (first | apply Kd.R_alloc | apply Kd.R_drewN | apply Kd.R_drew)); exact HO227.out))) (Kd.R_lt (by (with_reducible repeat (first | apply Kd.R_alloc | apply Kd.R_drewN | apply Kd.R_drew)); exact HO230.out))) (Kd.R_lt (by (with_reducible repeat (first | apply Kd.R_alloc | apply Kd.R_drewN | apply Kd.R_drew)); exact HO234.out))) (below_size (by repeat (first | (with_reducible first | exact HB.out | apply below_alloc | apply pw_below_drewN | apply below_drew1) | exact HB.out)))); have n8_ := Aside0.mk (below_step (by repeat (first | (with_reducible first | exact HB.out | apply below_alloc | apply pw_below_drewN | apply below_drew1) | exact HB.out)) hb); clear HO215; clear HO218; clear HO221; clear HO224; clear HO227; clear HO230; clear HO234; clear HB; have HO215 := n0_; have HO218 := n1_; have HO221 := n2_; have HO224 := n3_; have HO227 := n4_; have HO230 := n5_; have HO234 := n6_; have HO238 := n7_; have HB := n8_; clear n0_ n1_ n2_ n3_ n4_ n5_ n6_ n7_ n8_; (try clear hb); (try clear hb2); (try clear hk); (try clear hi); (try clear ho0); obtain ⟨Ao41, co41, eo41⟩ := Kd.R_slice HO238.out; subst eo41) | ((with_reducible refine gate_callee (f := 33) rfl ?_); refine goesL_ (some 48) rfl rfl Try.func33 (by kernel_rfl) rfl #[.slice Ao32 t225.length co32, .slice Ao41 t236.length co41] rfl (by (try simp only [List.map_toArray, List.map_cons, List.map_nil]); first | done | rfl | (simp only [List.length_drop, List.length_take]; rfl)) ?_; (with_reducible refine (laws_eqDependS.calls k _ _ t225 _ _ t236 true _ ?side1 ?side2 ?side3 ?side4 A19.out).mono ?_); (case side1 => repeat (first | exact (Kd.R_reads' HO227.out).2.2 | (with_reducible refine Kd.C_alloc ?_ _) | (with_reducible refine Kd.C_drewN ?_ _) | (with_reducible refine Kd.C_drew ?_))); (case side2 => exact (Kd.R_reads' HO227.out).2.1); (case side3 => repeat (first | exact (Kd.R_reads' HO238.out).2.2 | (with_reducible refine Kd.C_alloc ?_ _) | (with_reducible refine Kd.C_drewN ?_ _) | (with_reducible refine Kd.C_drew ?_))); (case side4 => exact (Kd.R_reads' HO238.out).2.1); rintro e w42 ⟨rfl, hb⟩; refine ⟨_, rfl, ?_⟩; have n0_ := Aside0.mk (Kd.R_below (by (with_reducible repeat (first | apply Kd.R_alloc | apply Kd.R_drewN | apply Kd.R_drew)); exact HO215.out) hb); have n1_ := Aside0.mk (Kd.R_below (by (with_reducible repeat (first | apply Kd.R_alloc | apply Kd.R_drewN | apply Kd.R_drew)); exact HO218.out) hb); have n2_ := Aside0.mk (Kd.R_below (by (with_reducible repeat (first | apply Kd.R_alloc | apply Kd.R_drewN | apply Kd.R_drew)); exact HO221.out) hb); have n3_ := Aside0.mk (Kd.R_below (by (with_reducible repeat (first | apply Kd.R_alloc | apply Kd.R_drewN | apply Kd.R_drew)); exact HO224.out) hb); have n4_ := Aside0.mk (Kd.R_below (by (with_reducible repeat (first | apply Kd.R_alloc | apply Kd.R_drewN | apply Kd.R_drew)); exact HO227.out) hb); have n5_ := Aside0.mk (Kd.R_below (by (with_reducible repeat (first | apply Kd.R_alloc | apply Kd.R_drewN | apply Kd.R_drew)); exact HO230.out) hb); have n6_ := Aside0.mk (Kd.R_below (by (with_reducible repeat (first | apply Kd.R_alloc | apply Kd.R_drewN | apply Kd.R_drew)); exact HO234.out) hb); have n7_ := Aside0.mk (Kd.R_below (by (with_reducible repeat (first | apply Kd.R_alloc | apply Kd.R_drewN | apply Kd.R_drew)); exact HO238.out) hb); have n8_ := Aside0.mk (below_step (by repeat (first | (with_reducible first | exact HB.out | apply below_alloc | apply pw_below_drewN | apply below_drew1) | exact HB.out)) hb); clear HO215; clear HO218; clear HO221; clear HO224; clear HO227; clear HO230; clear HO234; clear HO238; clear HB; have HO215 := n0_; have HO218 := n1_; have HO221 := n2_; have HO224 := n3_; have HO227 := n4_; have HO230 := n5_; have HO234 := n6_; have HO238 := n7_; have HB := n8_; clear n0_ n1_ n2_ n3_ n4_ n5_ n6_ n7_ n8_; (try clear hb); (try clear hb2); (try clear hk); (try clear hi)) | ((with_reducible refine gate_callee (f := 34) rfl ?_); refine goesL_ (some 52) rfl rfl Try.func34 (by kernel_rfl) rfl #[.slice Ao31 t222.length co31, .int .i64 1] rfl (by (try simp only [List.map_toArray, List.map_cons, List.map_nil]); first | done | rfl | (simp only [List.length_drop, List.length_take]; rfl)) ?_; (with_reducible refine (laws_markDependS.calls k (fun k_ => some k_ = (.slice Ao31 t222.length co31 : Value).ownBlock) (.slice Ao31 t222.length co31) t222 1 t240 t241 w _ ?side1 ?side2 A21.out).mono ?_); (case side1 => repeat (first | (with_reducible first | exact HB.out | apply below_alloc | apply pw_below_drewN | apply below_drew1) | exact HB.out)); (case side2 => exact Kd.R_tight rfl HO224.out); rintro e w43 ⟨rfl, hy0, hb, hkp⟩; refine ⟨_, rfl, ?_⟩; have n0_ := Aside0.mk (Kd.R_mono (ok' := fun k_ => some k_ ≠ (.slice Ao27 t216.length co27 : Value).ownBlock ∧ some k_ ≠ (.slice Ao35 t219.length co35 : Value).ownBlock ∧ some k_ ≠ (.slice Ao31 t222.length co31 : Value).ownBlock ∧ some k_ ≠ (.slice Ao32 t225.length co32 : Value).ownBlock ∧ some k_ ≠ (.slice Ao34 t228.length co34 : Value).ownBlock ∧ some k_ ≠ (.slice Ao38 t232.length co38 : Value).ownBlock ∧ some k_ ≠ (.slice Ao41 t236.length co41 : Value).ownBlock) (Kd.R_keptB (HO215.out) hkp (fun k_ hk_ hs_ => by first | exact (hk_.1.1.1.1.2) hs_ | (simp_all; done) | grind)) (fun k_ hk_ => by first | exact ⟨hk_.1.1.1.1.1.1.1.2, hk_.1.1.1.1.1.1.2, hk_.1.1.1.1.1.2, hk_.1.1.1.1.2, hk_.1.1.1.2, hk_.1.1.2, hk_.1.2⟩ | (simp_all; done) | grind)); have n1_ := Aside0.mk (Kd.R_mono (ok' := fun k_ => some k_ ≠ (.slice Ao26 t213.length co26 : Value).ownBlock ∧ some k_ ≠ (.slice Ao35 t219.length co35 : Value).ownBlock ∧ some k_ ≠ (.slice Ao31 t222.length co31 : Value).ownBlock ∧ some k_ ≠ (.slice Ao32 t225.length co32 : Value).ownBlock ∧ some k_ ≠ (.slice Ao34 t228.length co34 : Value).ownBlock ∧ some k_ ≠ (.slice Ao38 t232.length co38 : Value).ownBlock ∧ some k_ ≠ (.slice Ao41 t236.length co41 : Value).ownBlock) (Kd.R_keptB (HO218.out) hkp (fun k_ hk_ hs_ => by first | exact (hk_.1.1.1.1.2) hs_ | (simp_all; done) | grind)) (fun k_ hk_ => by first | exact ⟨hk_.1.1.1.1.1.1.1.2, hk_.1.1.1.1.1.1.2, hk_.1.1.1.1.1.2, hk_.1.1.1.1.2, hk_.1.1.1.2, hk_.1.1.2, hk_.1.2⟩ | (simp_all; done) | grind)); have n2_ := Aside0.mk (Kd.R_mono (ok' := fun k_ => some k_ ≠ (.slice Ao26 t213.length co26 : Value).ownBlock ∧ some k_ ≠ (.slice Ao27 t216.length co27 : Value).ownBlock ∧ some k_ ≠ (.slice Ao31 t222.length co31 : Value).ownBlock ∧ some k_ ≠ (.slice Ao32 t225.length co32 : Value).ownBlock ∧ some k_ ≠ (.slice Ao34 t228.length co34 : Value).ownBlock ∧ some k_ ≠ (.slice Ao38 t232.length co38 : Value).ownBlock ∧ some k_ ≠ (.slice Ao41 t236.length co41 : Value).ownBlock) (Kd.R_keptB (HO221.out) hkp (fun k_ hk_ hs_ => by first | exact (hk_.1.1.1.1.2) hs_ | (simp_all; done) | grind)) (fun k_ hk_ => by first | exact ⟨hk_.1.1.1.1.1.1.1.2, hk_.1.1.1.1.1.1.2, hk_.1.1.1.1.1.2, hk_.1.1.1.1.2, hk_.1.1.1.2, hk_.1.1.2, hk_.1.2⟩ | (simp_all; done) | grind)); have n3_ := Aside0.mk (Kd.R_reok rfl hy0 (fun k_ e_ => HO224.out.1 k_ e_)); have n4_ := Aside0.mk (Kd.R_mono (ok' := fun k_ => some k_ ≠ (.slice Ao26 t213.length co26 : Value).ownBlock ∧ some k_ ≠ (.slice Ao27 t216.length co27 : Value).ownBlock ∧ some k_ ≠ (.slice Ao35 t219.length co35 : Value).ownBlock ∧ some k_ ≠ (.slice Ao31 t222.length co31 : Value).ownBlock ∧ some k_ ≠ (.slice Ao34 t228.length co34 : Value).ownBlock ∧ some k_ ≠ (.slice Ao38 t232.length co38 : Value).ownBlock ∧ some k_ ≠ (.slice Ao41 t236.length co41 : Value).ownBlock) (Kd.R_keptB (HO227.out) hkp (fun k_ hk_ hs_ => by first | exact (hk_.1.1.1.2) hs_ | (simp_all; done) | grind)) (fun k_ hk_ => by first | exact ⟨hk_.1.1.1.1.1.1.1.2, hk_.1.1.1.1.1.1.2, hk_.1.1.1.1.1.2, hk_.1.1.1.1.2, hk_.1.1.1.2, hk_.1.1.2, hk_.1.2⟩ | (simp_all; done) | grind)); have n5_ := Aside0.mk (Kd.R_mono (ok' := fun k_ => some k_ ≠ (.slice Ao26 t213.length co26 : Value).ownBlock ∧ some k_ ≠ (.slice Ao27 t216.length co27 : Value).ownBlock ∧ some k_ ≠ (.slice Ao35 t219.length co35 : Value).ownBlock ∧ some k_ ≠ (.slice Ao31 t222.length co31 : Value).ownBlock ∧ some k_ ≠ (.slice Ao32 t225.length co32 : Value).ownBlock ∧ some k_ ≠ (.slice Ao38 t232.length co38 : Value).ownBlock ∧ some k_ ≠ (.slice Ao41 t236.length co41 : Value).ownBlock) (Kd.R_keptB (HO230.out) hkp (fun k_ hk_ hs_ => by first | exact (hk_.1.1.1.2) hs_ | (simp_all; done) | grind)) (fun k_ hk_ => by first | exact ⟨hk_.1.1.1.1.1.1.1.2, hk_.1.1.1.1.1.1.2, hk_.1.1.1.1.1.2, hk_.1.1.1.1.2, hk_.1.1.1.2, hk_.1.1.2, hk_.1.2⟩ | (simp_all; done) | grind)); have n6_ := Aside0.mk (Kd.R_mono (ok' := fun k_ => some k_ ≠ (.slice Ao26 t213.length co26 : Value).ownBlock ∧ some k_ ≠ (.slice Ao27 t216.length co27 : Value).ownBlock ∧ some k_ ≠ (.slice Ao35 t219.length co35 : Value).ownBlock ∧ some k_ ≠ (.slice Ao31 t222.length co31 : Value).ownBlock ∧ some k_ ≠ (.slice Ao32 t225.length co32 : Value).ownBlock ∧ some k_ ≠ (.slice Ao34 t228.length co34 : Value).ownBlock ∧ some k_ ≠ (.slice Ao41 t236.length co41 : Value).ownBlock) (Kd.R_keptB (HO234.out) hkp (fun k_ hk_ hs_ => by first | exact (hk_.1.1.1.2) hs_ | (simp_all; done) | grind)) (fun k_ hk_ => by first | exact ⟨hk_.1.1.1.1.1.1.1.2, hk_.1.1.1.1.1.1.2, hk_.1.1.1.1.1.2, hk_.1.1.1.1.2, hk_.1.1.1.2, hk_.1.1.2, hk_.1.2⟩ | (simp_all; done) | grind)); have n7_ := Aside0.mk (Kd.R_mono (ok' := fun k_ => some k_ ≠ (.slice Ao26 t213.length co26 : Value).ownBlock ∧ some k_ ≠ (.slice Ao27 t216.length co27 : Value).ownBlock ∧ some k_ ≠ (.slice Ao35 t219.length co35 : Value).ownBlock ∧ some k_ ≠ (.slice Ao31 t222.length co31 : Value).ownBlock ∧ some k_ ≠ (.slice Ao32 t225.length co32 : Value).ownBlock ∧ some k_ ≠ (.slice Ao34 t228.length co34 : Value).ownBlock ∧ some k_ ≠ (.slice Ao38 t232.length co38 : Value).ownBlock) (Kd.R_keptB (HO238.out) hkp (fun k_ hk_ hs_ => by first | exact (hk_.1.1.1.2) hs_ | (simp_all; done) | grind)) (fun k_ hk_ => by first | exact ⟨hk_.1.1.1.1.1.1.1.2, hk_.1.1.1.1.1.1.2, hk_.1.1.1.1.1.2, hk_.1.1.1.1.2, hk_.1.1.1.2, hk_.1.1.2, hk_.1.2⟩ | (simp_all; done) | grind)); have n8_ := Aside0.mk (hb); clear HO215; clear HO218; clear HO221; clear HO224; clear HO227; clear HO230; clear HO234; clear HO238; clear HB; have HO215 := n0_; have HO218 := n1_; have HO221 := n2_; have HO224 := n3_; have HO227 := n4_; have HO230 := n5_; have HO234 := n6_; have HO238 := n7_; have HB := n8_; clear n0_ n1_ n2_ n3_ n4_ n5_ n6_ n7_ n8_; (try clear hb); (try clear hkp); (try clear hy0)) | ((with_reducible refine gate_callee (f := 34) rfl ?_); refine goesL_ (some 55) rfl rfl Try.func34 (by kernel_rfl) rfl #[.slice Ao32 t225.length co32, .int .i64 t240] rfl (by (try simp only [List.map_toArray, List.map_cons, List.map_nil]); first | done | rfl | (simp only [List.length_drop, List.length_take]; rfl)) ?_; (with_reducible refine (laws_markDependS.calls k (fun k_ => some k_ = (.slice Ao32 t225.length co32 : Value).ownBlock) (.slice Ao32 t225.length co32) t225 t240 t242 t243 w _ ?side1 ?side2 A22.out).mono ?_); (case side1 => repeat (first | (with_reducible first | exact HB.out | apply below_alloc | apply pw_below_drewN | apply below_drew1) | exact HB.out)); (case side2 => exact Kd.R_tight rfl HO227.out); rintro e w44 ⟨rfl, hy0, hb, hkp⟩; refine ⟨_, rfl, ?_⟩; have n0_ := Aside0.mk (Kd.R_mono (ok' := fun k_ => some k_ ≠ (.slice Ao27 t216.length co27 : Value).ownBlock ∧ some k_ ≠ (.slice Ao35 t219.length co35 : Value).ownBlock ∧ some k_ ≠ (.slice Ao31 t222.length co31 : Value).ownBlock ∧ some k_ ≠ (.slice Ao32 t225.length co32 : Value).ownBlock ∧ some k_ ≠ (.slice Ao34 t228.length co34 : Value).ownBlock ∧ some k_ ≠ (.slice Ao38 t232.length co38 : Value).ownBlock ∧ some k_ ≠ (.slice Ao41 t236.length co41 : Value).ownBlock) (Kd.R_keptB (HO215.out) hkp (fun k_ hk_ hs_ => by first | exact (hk_.2.2.2.1) hs_ | (simp_all; done) | grind)) (fun k_ hk_ => by first | exact ⟨hk_.1.1, hk_.1.2.1, hk_.1.2.2.1, hk_.1.2.2.2.1, hk_.1.2.2.2.2.1, hk_.1.2.2.2.2.2.1, hk_.1.2.2.2.2.2.2⟩ | (simp_all; done) | grind)); have n1_ := Aside0.mk (Kd.R_mono (ok' := fun k_ => some k_ ≠ (.slice Ao26 t213.length co26 : Value).ownBlock ∧ some k_ ≠ (.slice Ao35 t219.length co35 : Value).ownBlock ∧ some k_ ≠ (.slice Ao31 t222.length co31 : Value).ownBlock ∧ some k_ ≠ (.slice Ao32 t225.length co32 : Value).ownBlock ∧ some k_ ≠ (.slice Ao34 t228.length co34 : Value).ownBlock ∧ some k_ ≠ (.slice Ao38 t232.length co38 : Value).ownBlock ∧ some k_ ≠ (.slice Ao41 t236.length co41 : Value).ownBlock) (Kd.R_keptB (HO218.out) hkp (fun k_ hk_ hs_ => by first | exact (hk_.2.2.2.1) hs_ | (simp_all; done) | grind)) (fun k_ hk_ => by first | exact ⟨hk_.1.1, hk_.1.2.1, hk_.1.2.2.1, hk_.1.2.2.2.1, hk_.1.2.2.2.2.1, hk_.1.2.2.2.2.2.1, hk_.1.2.2.2.2.2.2⟩ | (simp_all; done) | grind)); have n2_ := Aside0.mk (Kd.R_mono (ok' := fun k_ => some k_ ≠ (.slice Ao26 t213.length co26 : Value).ownBlock ∧ some k_ ≠ (.slice Ao27 t216.length co27 : Value).ownBlock ∧ some k_ ≠ (.slice Ao31 t222.length co31 : Value).ownBlock ∧ some k_ ≠ (.slice Ao32 t225.length co32 : Value).ownBlock ∧ some k_ ≠ (.slice Ao34 t228.length co34 : Value).ownBlock ∧ some k_ ≠ (.slice Ao38 t232.length co38 : Value).ownBlock ∧ some k_ ≠ (.slice Ao41 t236.length co41 : Value).ownBlock) (Kd.R_keptB (HO221.out) hkp (fun k_ hk_ hs_ => by first | exact (hk_.2.2.2.1) hs_ | (simp_all; done) | grind)) (fun k_ hk_ => by first | exact ⟨hk_.1.1, hk_.1.2.1, hk_.1.2.2.1, hk_.1.2.2.2.1, hk_.1.2.2.2.2.1, hk_.1.2.2.2.2.2.1, hk_.1.2.2.2.2.2.2⟩ | (simp_all; done) | grind)); have n3_ := Aside0.mk (Kd.R_mono (ok' := fun k_ => some k_ ≠ (.slice Ao26 t213.length co26 : Value).ownBlock ∧ some k_ ≠ (.slice Ao27 t216.length co27 : Value).ownBlock ∧ some k_ ≠ (.slice Ao35 t219.length co35 : Value).ownBlock ∧ some k_ ≠ (.slice Ao32 t225.length co32 : Value).ownBlock ∧ some k_ ≠ (.slice Ao34 t228.length co34 : Value).ownBlock ∧ some k_ ≠ (.slice Ao38 t232.length co38 : Value).ownBlock ∧ some k_ ≠ (.slice Ao41 t236.length co41 : Value).ownBlock) (Kd.R_keptB (HO224.out) hkp (fun k_ hk_ hs_ => by first | exact (hk_.1.1.1.2) hs_ | (simp_all; done) | grind)) (fun k_ hk_ => by first | exact ⟨hk_.1.1.1.1.1.1.1.2, hk_.1.1.1.1.1.1.2, hk_.1.1.1.1.1.2, hk_.1.1.1.1.2, hk_.1.1.1.2, hk_.1.1.2, hk_.1.2⟩ | (simp_all; done) | grind)); have n4_ := Aside0.mk (Kd.R_reok rfl hy0 (fun k_ e_ => HO227.out.1 k_ e_)); have n5_ := Aside0.mk (Kd.R_mono (ok' := fun k_ => some k_ ≠ (.slice Ao26 t213.length co26 : Value).ownBlock ∧ some k_ ≠ (.slice Ao27 t216.length co27 : Value).ownBlock ∧ some k_ ≠ (.slice Ao35 t219.length co35 : Value).ownBlock ∧ some k_ ≠ (.slice Ao31 t222.length co31 : Value).ownBlock ∧ some k_ ≠ (.slice Ao32 t225.length co32 : Value).ownBlock ∧ some k_ ≠ (.slice Ao38 t232.length co38 : Value).ownBlock ∧ some k_ ≠ (.slice Ao41 t236.length co41 : Value).ownBlock) (Kd.R_keptB (HO230.out) hkp (fun k_ hk_ hs_ => by first | exact (hk_.2.2.2.2.1) hs_ | (simp_all; done) | grind)) (fun k_ hk_ => by first | exact ⟨hk_.1.1, hk_.1.2.1, hk_.1.2.2.1, hk_.1.2.2.2.1, hk_.1.2.2.2.2.1, hk_.1.2.2.2.2.2.1, hk_.1.2.2.2.2.2.2⟩ | (simp_all; done) | grind)); have n6_ := Aside0.mk (Kd.R_mono (ok' := fun k_ => some k_ ≠ (.slice Ao26 t213.length co26 : Value).ownBlock ∧ some k_ ≠ (.slice Ao27 t216.length co27 : Value).ownBlock ∧ some k_ ≠ (.slice Ao35 t219.length co35 : Value).ownBlock ∧ some k_ ≠ (.slice Ao31 t222.length co31 : Value).ownBlock ∧ some k_ ≠ (.slice Ao32 t225.length co32 : Value).ownBlock ∧ some k_ ≠ (.slice Ao34 t228.length co34 : Value).ownBlock ∧ some k_ ≠ (.slice Ao41 t236.length co41 : Value).ownBlock) (Kd.R_keptB (HO234.out) hkp (fun k_ hk_ hs_ => by first | exact (hk_.2.2.2.2.1) hs_ | (simp_all; done) | grind)) (fun k_ hk_ => by first | exact ⟨hk_.1.1, hk_.1.2.1, hk_.1.2.2.1, hk_.1.2.2.2.1, hk_.1.2.2.2.2.1, hk_.1.2.2.2.2.2.1, hk_.1.2.2.2.2.2.2⟩ | (simp_all; done) | grind)); have n7_ := Aside0.mk (Kd.R_mono (ok' := fun k_ => some k_ ≠ (.slice Ao26 t213.length co26 : Value).ownBlock ∧ some k_ ≠ (.slice Ao27 t216.length co27 : Value).ownBlock ∧ some k_ ≠ (.slice Ao35 t219.length co35 : Value).ownBlock ∧ some k_ ≠ (.slice Ao31 t222.length co31 : Value).ownBlock ∧ some k_ ≠ (.slice Ao32 t225.length co32 : Value).ownBlock ∧ some k_ ≠ (.slice Ao34 t228.length co34 : Value).ownBlock ∧ some k_ ≠ (.slice Ao38 t232.length co38 : Value).ownBlock) (Kd.R_keptB (HO238.out) hkp (fun k_ hk_ hs_ => by first | exact (hk_.2.2.2.2.1) hs_ | (simp_all; done) | grind)) (fun k_ hk_ => by first | exact ⟨hk_.1.1, hk_.1.2.1, hk_.1.2.2.1, hk_.1.2.2.2.1, hk_.1.2.2.2.2.1, hk_.1.2.2.2.2.2.1, hk_.1.2.2.2.2.2.2⟩ | (simp_all; done) | grind)); have n8_ := Aside0.mk (hb); clear HO215; clear HO218; clear HO221; clear HO224; clear HO227; clear HO230; clear HO234; clear HO238; clear HB; have HO215 := n0_; have HO218 := n1_; have HO221 := n2_; have HO224 := n3_; have HO227 := n4_; have HO230 := n5_; have HO234 := n6_; have HO238 := n7_; have HB := n8_; clear n0_ n1_ n2_ n3_ n4_ n5_ n6_ n7_ n8_; (try clear hb); (try clear hkp); (try clear hy0)))
            (try simp only [Act.put, List.setIfInBounds_toArray, List.set_cons_zero, List.set_cons_succ])
            go_cut [63] (fun v63 wc => ∃ (kq : Nat) (x63_22 : Bool), v63 = .bool x63_22 ∧ Aside0 (laws_FnExactMergeDepends.j0 kq l0 l1 t219 t228 x63_22 = some r) ∧ Aside0 (kq ≤ k) ∧ Aside0 (Kd.R k83 83 wc w.heap.size (fun k_ => some k_ ≠ ((.slice Ao34 t228.length co34) : Value).ownBlock) (.slice Ao35 t219.length co35) t219) ∧ Aside0 (Kd.R k83 83 wc w.heap.size (fun k_ => some k_ ≠ ((.slice Ao35 t219.length co35) : Value).ownBlock) (.slice Ao34 t228.length co34) t228) ∧ Aside0 (Below w.heap.size w wc))
            case first =>
              have H := HC23.out
              clear HC23
              by_cases c45 : t242 < 0
              · rw [if_pos c45] at H
                have c45b0 : decide (t242 < 0) = true := decide_eq_true c45
                clear c45
                (first | rw [c45b0] | (simp only [i64_w, i32_w]; rw [c45b0]) | skip)
                have H' := Aside0.mk H
                clear H
                go_wp2
                go_meet
                case rel => exact ⟨_, (true), (by first | rfl | (simp; done) | (simp [*]; done)), H', ⟨by first | omega | exact Nat.le_refl _⟩, ⟨by (with_reducible repeat (first | apply Kd.R_alloc | apply Kd.R_drewN | apply Kd.R_drew)); exact Kd.R_mono HO221.out (fun _ hk => by first | exact hk.2.2.2.2.1 | (simp_all; done) | grind)⟩, ⟨by (with_reducible repeat (first | apply Kd.R_alloc | apply Kd.R_drewN | apply Kd.R_drew)); exact Kd.R_mono HO230.out (fun _ hk => by first | exact hk.2.2.1 | (simp_all; done) | grind)⟩, ⟨by repeat (first | (with_reducible first | exact HB.out | apply below_alloc | apply pw_below_drewN | apply below_drew1) | exact HB.out)⟩⟩
              · rw [if_neg c45] at H
                have c45b0 : decide (t242 < 0) = false := decide_eq_false c45
                clear c45
                (first | rw [c45b0] | (simp only [i64_w, i32_w]; rw [c45b0]) | skip)
                replace H := Option.bind_eq_some_iff.mp H
                obtain ⟨t244, A460, H⟩ := H
                replace H : (laws_FnExactMergeDepends.j0 k l0 l1 t219 t228 (!t244)) = some r := H
                have A46 := Aside0.mk A460
                clear A460
                have H' := Aside0.mk H
                clear H
                go_wp2_with (first | (go_at_call 33; (with_reducible refine (laws_eqDependS.calls k _ _ t228 _ _ t219 t244 _ ?side1 ?side2 ?side3 ?side4 A46.out).mono ?_); (case side1 => repeat (first | exact (Kd.R_reads' HO230.out).2.2 | (with_reducible refine Kd.C_alloc ?_ _) | (with_reducible refine Kd.C_drewN ?_ _) | (with_reducible refine Kd.C_drew ?_))); (case side2 => exact (Kd.R_reads' HO230.out).2.1); (case side3 => repeat (first | exact (Kd.R_reads' HO221.out).2.2 | (with_reducible refine Kd.C_alloc ?_ _) | (with_reducible refine Kd.C_drewN ?_ _) | (with_reducible refine Kd.C_drew ?_))); (case side4 => exact (Kd.R_reads' HO221.out).2.1); rintro e w47 ⟨rfl, hb⟩; have n0_ := Aside0.mk (Kd.R_below (by (with_reducible repeat (first | apply Kd.R_alloc | apply Kd.R_drewN | apply Kd.R_drew)); exact HO215.out) hb); have n1_ := Aside0.mk (Kd.R_below (by (with_reducible repeat (first | apply Kd.R_alloc | apply Kd.R_drewN | apply Kd.R_drew)); exact HO218.out) hb); have n2_ := Aside0.mk (Kd.R_below (by (with_reducible repeat (first | apply Kd.R_alloc | apply Kd.R_drewN | apply Kd.R_drew)); exact HO221.out) hb); have n3_ := Aside0.mk (Kd.R_below (by (with_reducible repeat (first | apply Kd.R_alloc | apply Kd.R_drewN | apply Kd.R_drew)); exact HO224.out) hb); have n4_ := Aside0.mk (Kd.R_below (by (with_reducible repeat (first | apply Kd.R_alloc | apply Kd.R_drewN | apply Kd.R_drew)); exact HO227.out) hb); have n5_ := Aside0.mk (Kd.R_below (by (with_reducible repeat (first | apply Kd.R_alloc | apply Kd.R_drewN | apply Kd.R_drew)); exact HO230.out) hb); have n6_ := Aside0.mk (Kd.R_below (by (with_reducible repeat (first | apply Kd.R_alloc | apply Kd.R_drewN | apply Kd.R_drew)); exact HO234.out) hb); have n7_ := Aside0.mk (Kd.R_below (by (with_reducible repeat (first | apply Kd.R_alloc | apply Kd.R_drewN | apply Kd.R_drew)); exact HO238.out) hb); have n8_ := Aside0.mk (below_step (by repeat (first | (with_reducible first | exact HB.out | apply below_alloc | apply pw_below_drewN | apply below_drew1) | exact HB.out)) hb); clear HO215; clear HO218; clear HO221; clear HO224; clear HO227; clear HO230; clear HO234; clear HO238; clear HB; have HO215 := n0_; have HO218 := n1_; have HO221 := n2_; have HO224 := n3_; have HO227 := n4_; have HO230 := n5_; have HO234 := n6_; have HO238 := n7_; have HB := n8_; clear n0_ n1_ n2_ n3_ n4_ n5_ n6_ n7_ n8_; (try clear hb); (try clear hb2); (try clear hk); (try clear hi)))
                go_meet
                case rel => exact ⟨_, (!t244), (by first | rfl | (simp; done) | (simp [*]; done)), H', ⟨by first | omega | exact Nat.le_refl _⟩, ⟨by (with_reducible repeat (first | apply Kd.R_alloc | apply Kd.R_drewN | apply Kd.R_drew)); exact Kd.R_mono HO221.out (fun _ hk => by first | exact hk.2.2.2.2.1 | (simp_all; done) | grind)⟩, ⟨by (with_reducible repeat (first | apply Kd.R_alloc | apply Kd.R_drewN | apply Kd.R_drew)); exact Kd.R_mono HO230.out (fun _ hk => by first | exact hk.2.2.1 | (simp_all; done) | grind)⟩, ⟨by repeat (first | (with_reducible first | exact HB.out | apply below_alloc | apply pw_below_drewN | apply below_drew1) | exact HB.out)⟩⟩
            case rest =>
              clear HC23
              try clear c1
              try clear c2
              try clear p2
              try clear c3
              try clear c4
              try clear c4b0
              try clear c6
              try clear c6b0
              try clear c11
              try clear c14
              try clear c17
              try clear c20
              try clear c33
              try clear c34
              try clear c36
              try clear c38
              try clear c45
              try clear c45b0
              obtain ⟨kq, x63_22, rfl, HA, HJ22, HO_6, HO_9, HB⟩ := hcut
              cases kq with
              | zero => exact absurd HA.out (by simp [laws_FnExactMergeDepends.j0])
              | succ kj22 =>
                have H := HA.out
                clear HA
                simp only [laws_FnExactMergeDepends.j0] at H
                by_cases c48 : x63_22 = true
                · subst c48
                  have H1 : (some false) = some r := by rw [if_pos rfl] at H; exact H
                  clear H
                  have H := H1
                  clear H1
                  obtain rfl := Option.some.inj H
                  exact absurd HRT.out (by simp)
                · replace c48 := Bool.eq_false_iff.mpr c48
                  subst c48
                  have H1 : ((laws_markDependS.f kj22 t228 1).bind fun bt245 => ((laws_heldDependS.f kj22 bt245.2 1).bind fun t247 => (if t247 < 0 then (some false) else (if t247 = bt245.1 then ((laws_toDependS.f kj22 l0).bind fun t248 => ((laws_toDependS.f kj22 l1).bind fun t251 => ((impl_MergeDepends.f kj22 t248 t251).bind fun t254 => ((laws_eqDependS.f kj22 t254 t219).bind fun t257 => (if t257 = true then ((laws_heldDependS.f kj22 bt245.2 1).bind fun t258 => (if t258 < 0 then (some false) else (if t258 = bt245.1 then (some true) else (some false)))) else (some false)))))) else (some false))))) = some r := by rw [if_neg (show ¬ (false = true) by decide)] at H; exact H
                  clear H
                  have H := H1
                  clear H1
                  replace H := Option.bind_eq_some_iff.mp H
                  obtain ⟨⟨t245, t246⟩, A490, H⟩ := H
                  replace H : ((laws_heldDependS.f kj22 t246 1).bind fun t247 => (if t247 < 0 then (some false) else (if t247 = t245 then ((laws_toDependS.f kj22 l0).bind fun t248 => ((laws_toDependS.f kj22 l1).bind fun t251 => ((impl_MergeDepends.f kj22 t248 t251).bind fun t254 => ((laws_eqDependS.f kj22 t254 t219).bind fun t257 => (if t257 = true then ((laws_heldDependS.f kj22 t246 1).bind fun t258 => (if t258 < 0 then (some false) else (if t258 = t245 then (some true) else (some false)))) else (some false)))))) else (some false)))) = some r := H
                  have A49 := Aside0.mk A490
                  clear A490
                  replace H := Option.bind_eq_some_iff.mp H
                  obtain ⟨t247, A500, H⟩ := H
                  replace H : (if t247 < 0 then (some false) else (if t247 = t245 then ((laws_toDependS.f kj22 l0).bind fun t248 => ((laws_toDependS.f kj22 l1).bind fun t251 => ((impl_MergeDepends.f kj22 t248 t251).bind fun t254 => ((laws_eqDependS.f kj22 t254 t219).bind fun t257 => (if t257 = true then ((laws_heldDependS.f kj22 t246 1).bind fun t258 => (if t258 < 0 then (some false) else (if t258 = t245 then (some true) else (some false)))) else (some false)))))) else (some false))) = some r := H
                  have A50 := Aside0.mk A500
                  clear A500
                  by_cases c51 : t247 < 0
                  · rw [if_pos c51] at H
                    have c51b0 : decide (t247 < 0) = true := decide_eq_true c51
                    clear c51
                    obtain rfl := Option.some.inj H
                    exact absurd HRT.out (by simp)
                  · rw [if_neg c51] at H
                    have c51b0 : decide (t247 < 0) = false := decide_eq_false c51
                    clear c51
                    by_cases c52 : t247 = t245
                    · rw [if_pos c52] at H
                      have c52b0 : (t247 == t245) = true := beq_iff_eq.mpr c52
                      have c52b1 : (t247 != t245) = false := bne_eq_false_iff_eq.mpr c52
                      clear c52
                      replace H := Option.bind_eq_some_iff.mp H
                      obtain ⟨t248, A530, H⟩ := H
                      replace H : ((laws_toDependS.f kj22 l1).bind fun t251 => ((impl_MergeDepends.f kj22 t248 t251).bind fun t254 => ((laws_eqDependS.f kj22 t254 t219).bind fun t257 => (if t257 = true then ((laws_heldDependS.f kj22 t246 1).bind fun t258 => (if t258 < 0 then (some false) else (if t258 = t245 then (some true) else (some false)))) else (some false))))) = some r := H
                      have A53 := Aside0.mk A530
                      clear A530
                      replace H := Option.bind_eq_some_iff.mp H
                      obtain ⟨t251, A540, H⟩ := H
                      replace H : ((impl_MergeDepends.f kj22 t248 t251).bind fun t254 => ((laws_eqDependS.f kj22 t254 t219).bind fun t257 => (if t257 = true then ((laws_heldDependS.f kj22 t246 1).bind fun t258 => (if t258 < 0 then (some false) else (if t258 = t245 then (some true) else (some false)))) else (some false)))) = some r := H
                      have A54 := Aside0.mk A540
                      clear A540
                      replace H := Option.bind_eq_some_iff.mp H
                      obtain ⟨t254, A550, H⟩ := H
                      replace H : ((laws_eqDependS.f kj22 t254 t219).bind fun t257 => (if t257 = true then ((laws_heldDependS.f kj22 t246 1).bind fun t258 => (if t258 < 0 then (some false) else (if t258 = t245 then (some true) else (some false)))) else (some false))) = some r := H
                      have A55 := Aside0.mk A550
                      clear A550
                      replace H := Option.bind_eq_some_iff.mp H
                      obtain ⟨t257, A560, H⟩ := H
                      replace H : (if t257 = true then ((laws_heldDependS.f kj22 t246 1).bind fun t258 => (if t258 < 0 then (some false) else (if t258 = t245 then (some true) else (some false)))) else (some false)) = some r := H
                      have A56 := Aside0.mk A560
                      clear A560
                      by_cases c57 : t257 = true
                      · subst c57
                        have H1 : ((laws_heldDependS.f kj22 t246 1).bind fun t258 => (if t258 < 0 then (some false) else (if t258 = t245 then (some true) else (some false)))) = some r := by rw [if_pos rfl] at H; exact H
                        clear H
                        have H := H1
                        clear H1
                        replace H := Option.bind_eq_some_iff.mp H
                        obtain ⟨t258, A580, H⟩ := H
                        replace H : (if t258 < 0 then (some false) else (if t258 = t245 then (some true) else (some false))) = some r := H
                        have A58 := Aside0.mk A580
                        clear A580
                        by_cases c59 : t258 < 0
                        · rw [if_pos c59] at H
                          have c59b0 : decide (t258 < 0) = true := decide_eq_true c59
                          clear c59
                          obtain rfl := Option.some.inj H
                          exact absurd HRT.out (by simp)
                        · rw [if_neg c59] at H
                          have c59b0 : decide (t258 < 0) = false := decide_eq_false c59
                          clear c59
                          by_cases c60 : t258 = t245
                          · rw [if_pos c60] at H
                            have c60b0 : (t258 == t245) = true := beq_iff_eq.mpr c60
                            have c60b1 : (t258 != t245) = false := bne_eq_false_iff_eq.mpr c60
                            clear c60
                            obtain rfl := Option.some.inj H
                            go_wp2_with (first | ((with_reducible refine gate_callee (f := 34) rfl ?_); refine goesL_ (some 66) rfl rfl Try.func34 (by kernel_rfl) rfl #[.slice Ao34 t228.length co34, .int .i64 1] rfl (by (try simp only [List.map_toArray, List.map_cons, List.map_nil]); first | done | rfl | (simp only [List.length_drop, List.length_take]; rfl)) ?_; (with_reducible refine (laws_markDependS.calls kj22 (fun k_ => some k_ = (.slice Ao34 t228.length co34 : Value).ownBlock) (.slice Ao34 t228.length co34) t228 1 t245 t246 w _ ?side1 ?side2 A49.out).mono ?_); (case side1 => repeat (first | (with_reducible first | exact HB.out | apply below_alloc | apply pw_below_drewN | apply below_drew1) | exact HB.out)); (case side2 => exact Kd.R_tight rfl HO_9.out); rintro e w61 ⟨rfl, hy0, hb, hkp⟩; refine ⟨_, rfl, ?_⟩; have n0_ := Aside0.mk (Kd.R_mono (ok' := fun k_ => some k_ ≠ (.slice Ao34 t228.length co34 : Value).ownBlock) (Kd.R_keptB (HO_6.out) hkp (fun k_ hk_ hs_ => by first | exact (hk_) hs_ | (simp_all; done) | grind)) (fun k_ hk_ => by first | exact hk_.1 | (simp_all; done) | grind)); have n1_ := Aside0.mk (Kd.R_reok rfl hy0 (fun k_ e_ => HO_9.out.1 k_ e_)); have n2_ := Aside0.mk (hb); clear HO_6; clear HO_9; clear HB; have HO_6 := n0_; have HO_9 := n1_; have HB := n2_; clear n0_ n1_ n2_; (try clear hb); (try clear hkp); (try clear hy0)) | ((with_reducible refine gate_callee (f := 35) rfl ?_); refine goesL_ (some 69) rfl rfl Try.func35 (by kernel_rfl) rfl #[.slice Ao34 t246.length co34, .int .i64 1] rfl (by (try simp only [List.map_toArray, List.map_cons, List.map_nil]); first | done | (rw [show t246.length = t228.length from (Kd.R_reads' HO_9.out).1.symm] <;> rfl) | rfl | (simp only [List.length_drop, List.length_take]; rfl)) ?_; (with_reducible refine (laws_heldDependS.calls kj22 _ _ t246 1 t247 _ ?side1 ?side2 A50.out).mono ?_); (case side1 => repeat (first | exact (Kd.R_reads' HO_9.out).2.2 | (with_reducible refine Kd.C_alloc ?_ _) | (with_reducible refine Kd.C_drewN ?_ _) | (with_reducible refine Kd.C_drew ?_))); (case side2 => rw [show t246.length = t228.length from (Kd.R_reads' HO_9.out).1.symm]; exact (Kd.R_reads' HO_9.out).2.1); rintro e w' ⟨rfl, ⟨nd, rfl⟩⟩; refine ⟨_, rfl, ?_⟩) | ((with_reducible refine gate_callee (f := 38) rfl ?_); refine goesL_ (some 76) rfl rfl Try.func38 (by kernel_rfl) rfl #[.slice A0 l0.length c0] rfl (by (try simp only [List.map_toArray, List.map_cons, List.map_nil]); first | done | rfl | (simp only [List.length_drop, List.length_take]; rfl)) ?_; (with_reducible refine (laws_toDependS.calls kj22 _ _ l0 t248 _ ?side1 ?side2 A53.out).mono ?_); (case side1 => repeat (first | exact (Kd.C_below HR0.out (by repeat (first | (with_reducible first | exact HB.out | apply below_alloc | apply pw_below_drewN | apply below_drew1) | exact HB.out))) | (with_reducible refine Kd.C_alloc ?_ _) | (with_reducible refine Kd.C_drewN ?_ _) | (with_reducible refine Kd.C_drew ?_))); (case side2 => exact HC0.out); rintro e w62 ⟨v249, rfl, ho0, hb⟩; refine ⟨_, rfl, ?_⟩; have n0_ := Aside0.mk (Kd.R_elder' (by (with_reducible repeat (first | apply Kd.R_alloc | apply Kd.R_drewN | apply Kd.R_drew)); exact HO_6.out) (Kd.R_base ho0) hb); have n1_ := Aside0.mk (Kd.R_elder' (by (with_reducible repeat (first | apply Kd.R_alloc | apply Kd.R_drewN | apply Kd.R_drew)); exact HO_9.out) (Kd.R_base ho0) hb); have n2_ := Aside0.mk (Kd.R_lower (Kd.R_new' (Kd.R_new' ho0 (Kd.R_lt (by (with_reducible repeat (first | apply Kd.R_alloc | apply Kd.R_drewN | apply Kd.R_drew)); exact HO_6.out))) (Kd.R_lt (by (with_reducible repeat (first | apply Kd.R_alloc | apply Kd.R_drewN | apply Kd.R_drew)); exact HO_9.out))) (below_size (by repeat (first | (with_reducible first | exact HB.out | apply below_alloc | apply pw_below_drewN | apply below_drew1) | exact HB.out)))); have n3_ := Aside0.mk (below_step (by repeat (first | (with_reducible first | exact HB.out | apply below_alloc | apply pw_below_drewN | apply below_drew1) | exact HB.out)) hb); clear HO_6; clear HO_9; clear HB; have HO_6 := n0_; have HO_9 := n1_; have HO250 := n2_; have HB := n3_; clear n0_ n1_ n2_ n3_; (try clear hb); (try clear hb2); (try clear hk); (try clear hi); (try clear ho0)) | ((with_reducible refine gate_callee (f := 38) rfl ?_); refine goesL_ (some 78) rfl rfl Try.func38 (by kernel_rfl) rfl #[.slice A1 l1.length c1] rfl (by (try simp only [List.map_toArray, List.map_cons, List.map_nil]); first | done | rfl | (simp only [List.length_drop, List.length_take]; rfl)) ?_; (with_reducible refine (laws_toDependS.calls kj22 _ _ l1 t251 _ ?side1 ?side2 A54.out).mono ?_); (case side1 => repeat (first | exact (Kd.C_below HR1.out HB.out) | (with_reducible refine Kd.C_alloc ?_ _) | (with_reducible refine Kd.C_drewN ?_ _) | (with_reducible refine Kd.C_drew ?_))); (case side2 => exact HC1.out); rintro e w63 ⟨v252, rfl, ho0, hb⟩; refine ⟨_, rfl, ?_⟩; have n0_ := Aside0.mk (Kd.R_elder' (by (with_reducible repeat (first | apply Kd.R_alloc | apply Kd.R_drewN | apply Kd.R_drew)); exact HO_6.out) (Kd.R_base ho0) hb); have n1_ := Aside0.mk (Kd.R_elder' (by (with_reducible repeat (first | apply Kd.R_alloc | apply Kd.R_drewN | apply Kd.R_drew)); exact HO_9.out) (Kd.R_base ho0) hb); have n2_ := Aside0.mk (Kd.R_elder' (by (with_reducible repeat (first | apply Kd.R_alloc | apply Kd.R_drewN | apply Kd.R_drew)); exact HO250.out) (Kd.R_base ho0) hb); have n3_ := Aside0.mk (Kd.R_lower (Kd.R_new' (Kd.R_new' (Kd.R_new' ho0 (Kd.R_lt (by (with_reducible repeat (first | apply Kd.R_alloc | apply Kd.R_drewN | apply Kd.R_drew)); exact HO_6.out))) (Kd.R_lt (by (with_reducible repeat (first | apply Kd.R_alloc | apply Kd.R_drewN | apply Kd.R_drew)); exact HO_9.out))) (Kd.R_lt (by (with_reducible repeat (first | apply Kd.R_alloc | apply Kd.R_drewN | apply Kd.R_drew)); exact HO250.out))) (below_size (by repeat (first | (with_reducible first | exact HB.out | apply below_alloc | apply pw_below_drewN | apply below_drew1) | exact HB.out)))); have n4_ := Aside0.mk (below_step (by repeat (first | (with_reducible first | exact HB.out | apply below_alloc | apply pw_below_drewN | apply below_drew1) | exact HB.out)) hb); clear HO_6; clear HO_9; clear HO250; clear HB; have HO_6 := n0_; have HO_9 := n1_; have HO250 := n2_; have HO253 := n3_; have HB := n4_; clear n0_ n1_ n2_ n3_ n4_; (try clear hb); (try clear hb2); (try clear hk); (try clear hi); (try clear ho0); obtain ⟨Ao64, co64, eo64⟩ := Kd.R_slice HO250.out; subst eo64; obtain ⟨Ao65, co65, eo65⟩ := Kd.R_slice HO253.out; subst eo65) | ((with_reducible refine gate_callee (f := 61) rfl ?_); refine goesL_ (some 79) rfl rfl Try.func61 (by kernel_rfl) rfl #[.slice Ao64 t248.length co64, .slice Ao65 t251.length co65] rfl (by (try simp only [List.map_toArray, List.map_cons, List.map_nil]); first | done | rfl | (simp only [List.length_drop, List.length_take]; rfl)) ?_; (with_reducible refine (impl_MergeDepends.calls kj22 _ _ t248 _ _ t251 t254 _ ?side1 ?side2 ?side3 ?side4 A55.out).mono ?_); (case side1 => repeat (first | exact (Kd.R_reads' HO250.out).2.2 | (with_reducible refine Kd.C_alloc ?_ _) | (with_reducible refine Kd.C_drewN ?_ _) | (with_reducible refine Kd.C_drew ?_))); (case side2 => exact (Kd.R_reads' HO250.out).2.1); (case side3 => repeat (first | exact (Kd.R_reads' HO253.out).2.2 | (with_reducible refine Kd.C_alloc ?_ _) | (with_reducible refine Kd.C_drewN ?_ _) | (with_reducible refine Kd.C_drew ?_))); (case side4 => exact (Kd.R_reads' HO253.out).2.1); rintro e w66 ⟨v255, rfl, ho0, hb⟩; refine ⟨_, rfl, ?_⟩; have n0_ := Aside0.mk (Kd.R_elder' (by (with_reducible repeat (first | apply Kd.R_alloc | apply Kd.R_drewN | apply Kd.R_drew)); exact HO_6.out) (Kd.R_base ho0) hb); have n1_ := Aside0.mk (Kd.R_elder' (by (with_reducible repeat (first | apply Kd.R_alloc | apply Kd.R_drewN | apply Kd.R_drew)); exact HO_9.out) (Kd.R_base ho0) hb); have n2_ := Aside0.mk (Kd.R_elder' (by (with_reducible repeat (first | apply Kd.R_alloc | apply Kd.R_drewN | apply Kd.R_drew)); exact HO250.out) (Kd.R_base ho0) hb); have n3_ := Aside0.mk (Kd.R_elder' (by (with_reducible repeat (first | apply Kd.R_alloc | apply Kd.R_drewN | apply Kd.R_drew)); exact HO253.out) (Kd.R_base ho0) hb); have n4_ := Aside0.mk (Kd.R_lower (Kd.R_new' (Kd.R_new' (Kd.R_new' (Kd.R_new' ho0 (Kd.R_lt (by (with_reducible repeat (first | apply Kd.R_alloc | apply Kd.R_drewN | apply Kd.R_drew)); exact HO_6.out))) (Kd.R_lt (by (with_reducible repeat (first | apply Kd.R_alloc | apply Kd.R_drewN | apply Kd.R_drew)); exact HO_9.out))) (Kd.R_lt (by (with_reducible repeat (first | apply Kd.R_alloc | apply Kd.R_drewN | apply Kd.R_drew)); exact HO250.out))) (Kd.R_lt (by (with_reducible repeat (first | apply Kd.R_alloc | apply Kd.R_drewN | apply Kd.R_drew)); exact HO253.out))) (below_size (by repeat (first | (with_reducible first | exact HB.out | apply below_alloc | apply pw_below_drewN | apply below_drew1) | exact HB.out)))); have n5_ := Aside0.mk (below_step (by repeat (first | (with_reducible first | exact HB.out | apply below_alloc | apply pw_below_drewN | apply below_drew1) | exact HB.out)) hb); clear HO_6; clear HO_9; clear HO250; clear HO253; clear HB; have HO_6 := n0_; have HO_9 := n1_; have HO250 := n2_; have HO253 := n3_; have HO256 := n4_; have HB := n5_; clear n0_ n1_ n2_ n3_ n4_ n5_; (try clear hb); (try clear hb2); (try clear hk); (try clear hi); (try clear ho0); obtain ⟨Ao67, co67, eo67⟩ := Kd.R_slice HO256.out; subst eo67) | ((with_reducible refine gate_callee (f := 33) rfl ?_); refine goesL_ (some 82) rfl rfl Try.func33 (by kernel_rfl) rfl #[.slice Ao67 t254.length co67, .slice Ao35 t219.length co35] rfl (by (try simp only [List.map_toArray, List.map_cons, List.map_nil]); first | done | rfl | (simp only [List.length_drop, List.length_take]; rfl)) ?_; (with_reducible refine (laws_eqDependS.calls kj22 _ _ t254 _ _ t219 true _ ?side1 ?side2 ?side3 ?side4 A56.out).mono ?_); (case side1 => repeat (first | exact (Kd.R_reads' HO256.out).2.2 | (with_reducible refine Kd.C_alloc ?_ _) | (with_reducible refine Kd.C_drewN ?_ _) | (with_reducible refine Kd.C_drew ?_))); (case side2 => exact (Kd.R_reads' HO256.out).2.1); (case side3 => repeat (first | exact (Kd.R_reads' HO_6.out).2.2 | (with_reducible refine Kd.C_alloc ?_ _) | (with_reducible refine Kd.C_drewN ?_ _) | (with_reducible refine Kd.C_drew ?_))); (case side4 => exact (Kd.R_reads' HO_6.out).2.1); rintro e w68 ⟨rfl, hb⟩; refine ⟨_, rfl, ?_⟩; have n0_ := Aside0.mk (Kd.R_below (by (with_reducible repeat (first | apply Kd.R_alloc | apply Kd.R_drewN | apply Kd.R_drew)); exact HO_6.out) hb); have n1_ := Aside0.mk (Kd.R_below (by (with_reducible repeat (first | apply Kd.R_alloc | apply Kd.R_drewN | apply Kd.R_drew)); exact HO_9.out) hb); have n2_ := Aside0.mk (Kd.R_below (by (with_reducible repeat (first | apply Kd.R_alloc | apply Kd.R_drewN | apply Kd.R_drew)); exact HO250.out) hb); have n3_ := Aside0.mk (Kd.R_below (by (with_reducible repeat (first | apply Kd.R_alloc | apply Kd.R_drewN | apply Kd.R_drew)); exact HO253.out) hb); have n4_ := Aside0.mk (Kd.R_below (by (with_reducible repeat (first | apply Kd.R_alloc | apply Kd.R_drewN | apply Kd.R_drew)); exact HO256.out) hb); have n5_ := Aside0.mk (below_step (by repeat (first | (with_reducible first | exact HB.out | apply below_alloc | apply pw_below_drewN | apply below_drew1) | exact HB.out)) hb); clear HO_6; clear HO_9; clear HO250; clear HO253; clear HO256; clear HB; have HO_6 := n0_; have HO_9 := n1_; have HO250 := n2_; have HO253 := n3_; have HO256 := n4_; have HB := n5_; clear n0_ n1_ n2_ n3_ n4_ n5_; (try clear hb); (try clear hb2); (try clear hk); (try clear hi)) | ((with_reducible refine gate_callee (f := 35) rfl ?_); refine goesL_ (some 86) rfl rfl Try.func35 (by kernel_rfl) rfl #[.slice Ao34 t246.length co34, .int .i64 1] rfl (by (try simp only [List.map_toArray, List.map_cons, List.map_nil]); first | done | (rw [show t246.length = t228.length from (Kd.R_reads' HO_9.out).1.symm] <;> rfl) | rfl | (simp only [List.length_drop, List.length_take]; rfl)) ?_; (with_reducible refine (laws_heldDependS.calls kj22 _ _ t246 1 t258 _ ?side1 ?side2 A58.out).mono ?_); (case side1 => repeat (first | exact (Kd.R_reads' HO_9.out).2.2 | (with_reducible refine Kd.C_alloc ?_ _) | (with_reducible refine Kd.C_drewN ?_ _) | (with_reducible refine Kd.C_drew ?_))); (case side2 => rw [show t246.length = t228.length from (Kd.R_reads' HO_9.out).1.symm]; exact (Kd.R_reads' HO_9.out).2.1); rintro e w' ⟨rfl, ⟨nd, rfl⟩⟩; refine ⟨_, rfl, ?_⟩))
                            go_ret
                            exact ⟨by first | rfl | (simp [errW_none, errW_some] <;> rfl) | (simp [*, errW_none, errW_some] <;> rfl), by repeat (first | (with_reducible first | exact HB.out | apply below_alloc | apply pw_below_drewN | apply below_drew1) | exact HB.out)⟩
                          · rw [if_neg c60] at H
                            have c60b0 : (t258 == t245) = false := beq_eq_false_iff_ne.mpr c60
                            have c60b1 : (t258 != t245) = true := bne_iff_ne.mpr c60
                            obtain rfl := Option.some.inj H
                            exact absurd HRT.out (by simp)
                      · replace c57 := Bool.eq_false_iff.mpr c57
                        subst c57
                        have H1 : (some false) = some r := by rw [if_neg (show ¬ (false = true) by decide)] at H; exact H
                        clear H
                        have H := H1
                        clear H1
                        obtain rfl := Option.some.inj H
                        exact absurd HRT.out (by simp)
                    · rw [if_neg c52] at H
                      have c52b0 : (t247 == t245) = false := beq_eq_false_iff_ne.mpr c52
                      have c52b1 : (t247 != t245) = true := bne_iff_ne.mpr c52
                      obtain rfl := Option.some.inj H
                      exact absurd HRT.out (by simp)
          · replace c20 := Bool.eq_false_iff.mpr c20
            subst c20
            have H1 : (some false) = some r := by rw [if_neg (show ¬ (false = true) by decide)] at H; exact H
            clear H
            have H := H1
            clear H1
            obtain rfl := Option.some.inj H
            exact absurd HRT.out (by simp)
        · replace c17 := Bool.eq_false_iff.mpr c17
          subst c17
          have H1 : (some false) = some r := by rw [if_neg (show ¬ (false = true) by decide)] at H; exact H
          clear H
          have H := H1
          clear H1
          obtain rfl := Option.some.inj H
          exact absurd HRT.out (by simp)
      · replace c14 := Bool.eq_false_iff.mpr c14
        subst c14
        have H1 : (some false) = some r := by rw [if_neg (show ¬ (false = true) by decide)] at H; exact H
        clear H
        have H := H1
        clear H1
        obtain rfl := Option.some.inj H
        exact absurd HRT.out (by simp)

/-- THE ONE PURE STATEMENT of laws_FnExactMergeDepends. -/
def laws_FnExactMergeDepends.Pure : Prop := ∀ (l0 : List (S104)) (l1 : List (S104)), l0.length ≤ maxLen → (∀ y ∈ l0, (Lit.int .i64 y.f0).wf = true ∧ (Lit.int .i64 y.f1).wf = true) → l1.length ≤ maxLen → (∀ y ∈ l1, (Lit.int .i64 y.f0).wf = true ∧ (Lit.int .i64 y.f1).wf = true) → ∃ k, laws_FnExactMergeDepends.f k l0 l1 = some true
theorem laws_FnExactMergeDepends.walk (P : laws_FnExactMergeDepends.Pure) (A0 : Option Addr) (c0 : Nat) (l0 : List (S104)) (A1 : Option Addr) (c1 : Nat) (l1 : List (S104)) (w : World) (hr0 : Kd.C k104 w A0 l0.length l0) (hc0 : l0.length ≤ c0) (hr1 : Kd.C k104 w A1 l1.length l1) (hc1 : l1.length ≤ c1) (hw0 : l0.length ≤ maxLen) (hw1 : (∀ y ∈ l0, (Lit.int .i64 y.f0).wf = true ∧ (Lit.int .i64 y.f1).wf = true)) (hw2 : l1.length ≤ maxLen) (hw3 : (∀ y ∈ l1, (Lit.int .i64 y.f0).wf = true ∧ (Lit.int .i64 y.f1).wf = true)) :
    Calls Try.prog 11 #[.slice A0 l0.length c0, .slice A1 l1.length c1] w fun e w' => e = .returned (.bool true) ∧ Below w.heap.size w w' := by
  have h := P l0 l1 hw0 hw1 hw2 hw3
  obtain ⟨k, h⟩ := h
  refine (laws_FnExactMergeDepends.calls k A0 c0 l0 A1 c1 l1 true w hr0 hc0 hr1 hc1 rfl h).mono ?_
  rintro e w' ⟨rfl, hd⟩
  exact ⟨rfl, hd⟩


end Go.Proofs.Ytmfkgnfjjfnfmaa.XM
