/- What is proved: contracts of functions of the program (each: where its Lean function answers, the call returns that answer); written by a program of this session. -/
import Derived.Test.YtmfkgnfjjfnfmaaXV0
import Derived.Test.YtmfkgnfjjfnfmaaXV2
import Derived.Test.YtmfkgnfjjfnfmaaXV3
namespace Go.Proofs.Ytmfkgnfjjfnfmaa.XV
open Go.RowKit Go.Proofs.YtmfkgnfjjfnfmaaW.PrintWords Go.Proofs.YtmfkgnfjjfnfmaaW.PrintLast Go.Proofs.YtmfkgnfjjfnfmaaW.PrintMore
attribute [local go_sem] qcg qce qck qcj qbz qby qcf qcd   -- for this text's walks alone
set_option linter.unusedVariables false
set_option linter.unusedSimpArgs false

/-! ### impl_arranged: function 88 (by hand) -/
instance : Inhabited S83 := ⟨z83⟩
instance : DecidableEq S83 := fun a b => if h : a.f0 = b.f0 ∧ a.f1 = b.f1 then .isTrue (by cases a; cases b; simp_all) else .isFalse (fun e => h (by rw [e]; exact ⟨rfl, rfl⟩))
def depC (a : S83) : List Value := [.int .i64 a.f0, .int .i64 a.f1]
/-- between 0 and 127, both -/
def depIn (a : S83) : Bool := decide (0 ≤ a.f0 ∧ a.f0 ≤ 127 ∧ 0 ≤ a.f1 ∧ a.f1 ≤ 127)
def depLe (a b : S83) : Bool := decide (a.f0 < b.f0 ∨ (a.f0 = b.f0 ∧ a.f1 ≤ b.f1))
def impl_arranged.f (l : List S83) : Option (List S83) := if l.all depIn = true then (if l.length ≤ 100000000 then some (Lib.compact (l.mergeSort depLe)) else none) else none
theorem dep_flat : ∀ (xs : List S83) (inner : List Value), Reps (fun p c => c = depC p) 2 xs inner → inner = xs.flatMap depC
 | [], inner, h => by
  have := h.1
  exact List.eq_nil_of_length_eq_zero (by simpa using this)
 | x :: xs, inner, h => by
  have h0 := h.2 0 x rfl
  simp only [Nat.zero_mul, List.drop_zero] at h0
  have ih := dep_flat xs (inner.drop 2) ⟨by have := h.1; rw [List.length_drop, this, List.length_cons, Nat.succ_mul]; omega, fun j p hj => by
   have q := h.2 (j + 1) p (by simpa using hj)
   rw [List.drop_drop]
   rw [show 2 + j * 2 = (j + 1) * 2 by omega]
   exact q⟩
  rw [List.flatMap_cons, ← ih, ← h0, List.take_append_drop]
theorem dep_reps : ∀ (xs : List S83), Reps (fun p c => c = depC p) 2 xs (xs.flatMap depC)
 | [] => Reps.none _ _
 | x :: xs => by
  have ih := dep_reps xs
  refine ⟨by rw [List.flatMap_cons, List.length_append, ih.1, List.length_cons, Nat.succ_mul]; simp [depC]; omega, fun j p hj => ?_⟩
  cases j with
  | zero =>
   have e : x = p := by simpa using hj
   subst e
   simp [List.flatMap_cons, depC]
  | succ j =>
   have q := ih.2 j p (by simpa using hj)
   rw [List.flatMap_cons, show (j + 1) * 2 = 2 + j * 2 by omega, ← List.drop_drop]
   simpa [depC] using q
theorem dep_own {w : World} {base : Nat} {ok : Nat → Prop} {v : Value} {xs : List S83} (h : Kd.R k83 83 w base ok v xs) : w.ownsRow base 83 2 v xs.length (xs.flatMap depC) := by
 obtain ⟨_, inner, ho, hr⟩ := h
 have e := dep_flat xs inner (hr.imp_ (fun p c hp => k83_openM hp))
 subst e
 exact ho
theorem dep_R {w : World} {base : Nat} {v : Value} {xs : List S83} (h : w.ownsRow base 83 2 v xs.length (xs.flatMap depC)) : Kd.R k83 83 w base (fun _ => True) v xs :=
 ⟨fun _ _ => trivial, _, h, (dep_reps xs).imp_ (fun p c hp => by subst hp; exact k83_mkM _ _ _ p)⟩
/-- the model's == of two dependencies -/
theorem depEq (a b : S83) (w : World) : Sem.run Try.prog (binOp .eql 83 (.agg #[.int .i64 a.f0, .int .i64 a.f1]) (.agg #[.int .i64 b.f0, .int .i64 b.f1])) w = .ok (.bool (decide (a = b))) w := by
 have u3 := Try.underlying3
 have a3 := Try.isAgg3
 have z3 := Try.sizeOf3
 have hS : Try.prog.underlying 83 = some (.struct (Try.prog.fieldsOf 83)) := by kernel_rfl
 have hp : Try.prog.stoodInHeld 83 = false := by kernel_rfl
 have e : decide (a = b) = (decide (a.f0 = b.f0) && decide (a.f1 = b.f1)) := by
  cases a; cases b; simp
 rw [e, run_eql_struct, show (10000 : Nat) = 9999 + 1 from rfl, run_equalIn_agg w 9999 83 _ _ hS hp]
 simp only [Program.fieldsOf, Try.underlying83]
 go_simp
 by_cases h1 : a.f0 = b.f0 <;> by_cases h2 : a.f1 = b.f1 <;> simp [h1, h2]
theorem depNe (a b : S83) (w : World) : Sem.run Try.prog (binOp .neq 83 (.agg #[.int .i64 a.f0, .int .i64 a.f1]) (.agg #[.int .i64 b.f0, .int .i64 b.f1])) w = .ok (.bool (!decide (a = b))) w := by
 have u3 := Try.underlying3
 have a3 := Try.isAgg3
 have z3 := Try.sizeOf3
 have hS : Try.prog.underlying 83 = some (.struct (Try.prog.fieldsOf 83)) := by kernel_rfl
 have hp : Try.prog.stoodInHeld 83 = false := by kernel_rfl
 have e : decide (a = b) = (decide (a.f0 = b.f0) && decide (a.f1 = b.f1)) := by
  cases a; cases b; simp
 rw [e, run_neq_struct, show (10000 : Nat) = 9999 + 1 from rfl, run_equalIn_agg w 9999 83 _ _ hS hp]
 simp only [Program.fieldsOf, Try.underlying83]
 go_simp
 by_cases h1 : a.f0 = b.f0 <;> by_cases h2 : a.f1 = b.f1 <;> simp [h1, h2]
theorem dep_cell {w : World} {base g n c : Nat} {xs : List S83} (own : w.ownsRow base 83 2 (.slice (some ⟨g, 0, none⟩) n c) n (xs.flatMap depC)) (hn : n = xs.length) (k : Nat) (hk : k < xs.length) :
  (w.cell? ⟨g, k * 2, none⟩ = some (.int .i64 xs[k]!.f0) ∧ w.cell? ⟨g, k * 2 + 1, none⟩ = some (.int .i64 xs[k]!.f1)) ∧ w.frozen? ⟨g, k * 2, none⟩ = false ∧ w.frozen? ⟨g, k * 2 + 1, none⟩ = false := by
 obtain ⟨hH, _, _⟩ := Srt.holds_of_own own (by omega)
 have hl := Srt.flat_len depC 2 (fun _ => rfl) xs
 have h0 := hH (k * 2) (by simp [hl]; omega)
 have h1 := hH (k * 2 + 1) (by simp [hl]; omega)
 have e0 := Srt.flat_get depC 2 (fun _ => rfl) (by omega) xs (k * 2) (by omega)
 have e1 := Srt.flat_get depC 2 (fun _ => rfl) (by omega) xs (k * 2 + 1) (by omega)
 rw [show k * 2 / 2 = k by omega, show k * 2 % 2 = 0 by omega] at e0
 rw [show (k * 2 + 1) / 2 = k by omega, show (k * 2 + 1) % 2 = 1 by omega] at e1
 rw [show (xs.flatMap depC).toArray[k * 2]! = (xs.flatMap depC)[k * 2]! by simp, e0, Nat.zero_add] at h0
 rw [show (xs.flatMap depC).toArray[k * 2 + 1]! = (xs.flatMap depC)[k * 2 + 1]! by simp, e1, Nat.zero_add] at h1
 exact ⟨⟨h0.1, h1.1⟩, h0.2, h1.2⟩
theorem depKeeps_no {xs : List S83} {k : Nat} (h0 : 0 < k) (h : xs[k]! = xs[k - 1]!) : Lib.keeps xs.toArray k = false := by
 unfold Lib.keeps
 rw [show xs.toArray[k]! = xs[k]! by simp, show xs.toArray[k - 1]! = xs[k - 1]! by simp]
 exact decide_eq_false (by rw [h]; simp; omega)
theorem depKeeps_yes {xs : List S83} {k : Nat} (h : xs[k]! ≠ xs[k - 1]!) : Lib.keeps xs.toArray k = true := by
 unfold Lib.keeps
 rw [show xs.toArray[k]! = xs[k]! by simp, show xs.toArray[k - 1]! = xs[k - 1]! by simp]
 exact decide_eq_true (.inr h)
theorem depZeros (n : Nat) : (Builtin.zeroCells (Value.agg #[.int .i64 0, .int .i64 0]).cells n).toList.length = n * 2 ∧ ∀ v ∈ (Builtin.zeroCells (Value.agg #[.int .i64 0, .int .i64 0]).cells n).toList, v.oneCell' = true := by
 unfold Builtin.zeroCells
 refine ⟨by simp [Value.cells], fun v hv => ?_⟩
 simp only [Value.cells, Array.toList_map, List.mem_map] at hv
 obtain ⟨i, _, rfl⟩ := hv
 have h2 : i % 2 = 0 ∨ i % 2 = 1 := by omega
 show (#[Value.int .i64 0, Value.int .i64 0][i % 2]!).oneCell' = true
 rcases h2 with h | h <;> rw [h] <;> rfl
theorem depClear {P : Program} (w : World) (t e ty : TypeId) (z : Value) (ht : P.underlying t = some (.slice e)) (hv : ∀ w, (zeroValue e).run P w = .ok z w) (b o n c : Nat) (hn : 0 < n)
  (h1 : ∀ v ∈ (Builtin.zeroCells z.cells n).toList, v.oneCell' = true) (hc : ∀ j, j < (Builtin.zeroCells z.cells n).toList.length → (w.cell? ⟨b, o + j, none⟩).isSome = true ∧ w.frozen? ⟨b, o + j, none⟩ = false) :
  (Builtin.clear_ #[t] ty #[.slice (some ⟨b, o, none⟩) n c]).run P w = .ok (.tuple #[]) (w.setCells b o (Builtin.zeroCells z.cells n).toList) := by
 have hst := run_storeCells_cells (P := P) b o (Builtin.zeroCells z.cells n).toList 0 w (fun j hj => (hc j hj).1) (fun j hj => (hc j hj).2) h1
 simp only [Nat.add_zero] at hst
 obtain ⟨m, rfl⟩ : ∃ m, n = m + 1 := ⟨n - 1, by omega⟩
 simp [Builtin.clear_, run_underlying ht, hv, hst]
set_option maxHeartbeats 4000000 in
set_option maxRecDepth 1000000 in
/-- slices.Compact at dependencies: each run of equal ones once -/
theorem depCompact (g c : Nat) (xs : List S83) (w00 w : World) (hB : Below w00.heap.size w00 w) (hO : Kd.R k83 83 w w00.heap.size (fun _ => True) (.slice (some ⟨g, 0, none⟩) xs.length c) xs) :
  Calls Try.prog 136 #[.slice (some ⟨g, 0, none⟩) xs.length c] w fun e w' => e = .returned (.slice (some ⟨g, 0, none⟩) (Lib.compact xs).length c) ∧ Kd.R k83 83 w' w00.heap.size (fun _ => True) (.slice (some ⟨g, 0, none⟩) (Lib.compact xs).length c) (Lib.compact xs) ∧ Below w00.heap.size w00 w' := by
 have hu1 := Try.underlying83
 have hxl : xs.length ≤ 9223372036854775807 := (Kd.qau hO).2.2.2.1
 have hxc : xs.length ≤ c := (Kd.qau hO).2.1
 have HB := qab.mk hB
 have HO := qab.mk hO
 clear hB hO
 by_cases h2 : xs.length < 2
 ·have hall : Lib.compact xs = xs := Lib.compact_all xs (fun j hj => Lib.keeps_lt_one _ j (by omega))
  rw [hall]
  clear hall
  go_enter Try.func136, Try.ntmps136
  go_wp2
  go_ret
  exact ⟨rfl, HO.out, HB.out⟩
 ·go_enter Try.func136, Try.ntmps136
  go_wp2
  go_loopg [3] xs.length (fun kq s3 wr => ∃ k : Nat, 1 ≤ k ∧ k ≤ xs.length ∧ xs.length - k ≤ kq ∧ s3 = .int .i64 (k : Int) ∧ qab (Kd.R k83 83 wr w00.heap.size (fun _ => True) (.slice (some ⟨g, 0, none⟩) xs.length c) xs) ∧ qab (Below w00.heap.size w00 wr) ∧ qab (∀ j, j < k → Lib.keeps xs.toArray j = true))
  case atStart => exact ⟨1, Nat.le_refl _, by omega, by omega, rfl, HO, HB, ⟨Lib.keeps_lt_one _⟩⟩
  case round =>
   clear HO HB
   obtain ⟨k, hk1, hk, hgk, rfl, HO, HB, HA⟩ := hrel
   by_cases hlt : k < xs.length
   ·have hltz : (k : Int) < (xs.length : Int) := by omega
    have own := dep_own HO.out
    obtain ⟨⟨c0, c1⟩, _⟩ := dep_cell own rfl k hlt
    obtain ⟨⟨c2, c3⟩, _⟩ := dep_cell own rfl (k - 1) (by omega)
    have HX := qab.mk own
    clear own
    have p1 : (0 : Int) ≤ (k : Int) := by omega
    have p2 : (0 : Int) ≤ ((k - 1 : Nat) : Int) := by omega
    have p3 : ((k - 1 : Nat) : Int) < (xs.length : Int) := by omega
    have HW : qab (IntKind.i64.wrap ((k : Int) - 1) = ((k - 1 : Nat) : Int)) := ⟨(i64_w _).trans (by unfold wrap64; omega)⟩
    generalize hx : xs[k]! = x at c0 c1
    generalize hy : xs[k - 1]! = y at c2 c3
    have HXY : qab (xs[k]! = x ∧ xs[k - 1]! = y) := ⟨hx, hy⟩
    clear hx hy
    have heq := depEq x y
    have hw1 := HW.out
    go_wp2_with (fail)
    go_quiet (fail)
    have HO2 := qab.mk (Kd.qan HO.out nq)
    have HB2 := qab.mk (qaa HB.out nq)
    clear hw1 HW heq c0 c1 c2 c3 HX HO HB
    generalize wr.drewN nq = wr2 at HO2 HB2 ⊢
    by_cases q : x = y
    ·have q1 : decide (x = y) = true := decide_eq_true q
     have HI : qab (Lib.CompInv xs.toArray (k + 1) k xs.toArray) := ⟨Lib.CompInv.start HA.out (depKeeps_no (by omega) (by rw [HXY.out.1, HXY.out.2, q]))⟩
     rw [q1]
     clear q q1 HXY HA
     have p4 : ¬ c = k := by omega
     have p5 : ¬ c - k = 0 := by omega
     go_wp2
     go_loopg [3, 5] xs.length (fun kq s3 s5 wq => ∃ (kk k2 : Nat) (dk : List S83), s3 = .int .i64 (kk : Int) ∧ s5 = .int .i64 (k2 : Int) ∧ 1 ≤ k2 ∧ k + k2 ≤ xs.length ∧ xs.length - (k + k2) ≤ kq ∧ dk.length = xs.length ∧ qab (Kd.R k83 83 wq w00.heap.size (fun _ => True) (.slice (some ⟨g, 0, none⟩) dk.length c) dk) ∧ qab (Below w00.heap.size w00 wq) ∧ qab (Lib.CompInv xs.toArray (k + k2) kk dk.toArray))
     case atStart => exact ⟨k, 1, xs, rfl, rfl, Nat.le_refl _, by omega, by omega, rfl, HO2, HB2, HI⟩
     case round =>
      clear HO2 HB2 HI
      obtain ⟨kk, k2, dk, rfl, rfl, h1, hle, hg2, hdl, HO, HB, HI⟩ := hrel
      have hkk := HI.out.lt
      have HDL := qab.mk hdl
      have own := qab.mk (dep_own HO.out)
      by_cases hlt2 : k + k2 < xs.length
      ·have hltz2 : (k2 : Int) < ((xs.length - k : Nat) : Int) := by omega
       have hltz3 : decide (k2 < xs.length - k) = true := decide_eq_true (by omega)
       obtain ⟨⟨c0, c1⟩, _⟩ := dep_cell own.out rfl (k + k2) (by omega)
       obtain ⟨⟨c2, c3⟩, _⟩ := dep_cell own.out rfl (k + k2 - 1) (by omega)
       have hh1 := HI.out.high (k + k2) (by omega)
       have hh2 := HI.out.high (k + k2 - 1) (by omega)
       rw [show dk.toArray[k + k2]! = dk[k + k2]! by simp, show xs.toArray[k + k2]! = xs[k + k2]! by simp] at hh1
       rw [show dk.toArray[k + k2 - 1]! = dk[k + k2 - 1]! by simp, show xs.toArray[k + k2 - 1]! = xs[k + k2 - 1]! by simp] at hh2
       rw [hh1, show (k + k2) * 2 = k * 2 + k2 * 2 by omega] at c0 c1
       rw [hh2, show (k + k2 - 1) * 2 = k * 2 + (k2 - 1) * 2 by omega] at c2 c3
       clear hh1 hh2 hdl
       have p1 : (0 : Int) ≤ (k2 : Int) := by omega
       have p2 : (0 : Int) ≤ ((k2 - 1 : Nat) : Int) := by omega
       have p3 : ((k2 - 1 : Nat) : Int) < ((xs.length - k : Nat) : Int) := by omega
       have HW : qab (IntKind.i64.wrap ((k2 : Int) - 1) = ((k2 - 1 : Nat) : Int)) := ⟨(i64_w _).trans (by unfold wrap64; omega)⟩
       generalize hx : xs[k + k2]! = u at c0 c1
       generalize hy : xs[k + k2 - 1]! = v at c2 c3
       have HXY : qab (xs[k + k2]! = u ∧ xs[k + k2 - 1]! = v) := ⟨hx, hy⟩
       clear hx hy
       have heq := depNe u v
       have hw1 := HW.out
       go_wp2_with (fail)
       go_quiet (fail)
       have HO2 := qab.mk (Kd.qan HO.out nq)
       have HB2 := qab.mk (qaa HB.out nq)
       have e0 : (wr.drewN nq).cell? ⟨g, k * 2 + k2 * 2, none⟩ = some (.int .i64 u.f0) := c0
       have e1 : (wr.drewN nq).cell? ⟨g, k * 2 + k2 * 2 + 1, none⟩ = some (.int .i64 u.f1) := c1
       clear hw1 HW heq c0 c1 c2 c3 HO HB own
       generalize wr.drewN nq = wr3 at HO2 HB2 e0 e1 ⊢
       by_cases huv : u = v
       ·have q1 : decide (u = v) = true := decide_eq_true huv
        have HI2 : qab (Lib.CompInv xs.toArray (k + (k2 + 1)) kk dk.toArray) := ⟨HI.out.skip (depKeeps_no (by omega) (by rw [HXY.out.1, HXY.out.2, huv]))⟩
        rw [q1]
        clear q1 huv HXY HI e0 e1
        go_wp2
        go_roundg (xs.length - (k + (k2 + 1)))
        case measure => omega
        case rel => exact ⟨kk, k2 + 1, dk, rfl, by go_num, by omega, by omega, Nat.le_refl _, HDL.out, HO2, HB2, HI2⟩
       ·have q1 : decide (u = v) = false := decide_eq_false huv
        have HI2 : qab (Lib.CompInv xs.toArray (k + (k2 + 1)) (kk + 1) (dk.set kk u).toArray) := ⟨by
         have z := HI.out.keep (by simpa using hlt2) (depKeeps_yes (by rw [HXY.out.1, HXY.out.2]; exact huv))
         rw [show xs.toArray[k + k2]! = xs[k + k2]! by simp, HXY.out.1] at z
         rw [show k + (k2 + 1) = k + k2 + 1 by omega]
         simpa using z⟩
        have hkl : kk < dk.length := by rw [HDL.out]; omega
        obtain ⟨⟨o0, o1⟩, f0, f1⟩ := dep_cell (dep_own HO2.out) rfl kk hkl
        have p6 : (0 : Int) ≤ (kk : Int) := by omega
        have p7 : (kk : Int) < (xs.length : Int) := by rw [HDL.out] at hkl; omega
        have p8 : (k2 : Int) < ((xs.length - k : Nat) : Int) := by omega
        generalize dk[kk]! = od at o0 o1
        have OC : qab (∀ j q, [Value.int .i64 od.f0, Value.int .i64 od.f1][j]? = some q → wr3.cell? ⟨g, ((kk : Int)).toNat * k83.sz + j, none⟩ = some q) := ⟨by
         intro j q hj
         have e : ((kk : Int)).toNat * k83.sz = kk * 2 := by rw [Int.toNat_natCast]; rfl
         rw [e]
         match j, hj with
         | 0, hj => simp at hj; subst hj; exact o0
         | 1, hj => simp at hj; subst hj; exact o1
         | j + 2, hj => simp at hj⟩
        rw [q1]
        clear q1 huv HXY HI hkl o0 o1 f0 f1
        go_wp2_with ((with_reducible refine qdf (p := 51) rfl ?_); refine Kd.qdp k83 (w0 := w00) w00.heap.size rfl rfl 83 (.tmp 51) (.tmp 50) rfl 83 (kk : Int) 0 dk u (.agg #[.int .i64 u.f0, .int .i64 u.f1]) [.int .i64 u.f0, .int .i64 u.f1] [.int .i64 od.f0, .int .i64 od.f1] (fun _ => True) (fun _ => False) rfl ?aA rfl rfl (by kernel_rfl) ?a1 HO2.out p6 ?aL rfl ?aC (Nat.le_refl 2) ?aM (fun _ hk => hk.elim) HB2.out ?_; (case aA => simp; rfl); (case a1 => intro q hq; simp at hq; rcases hq with rfl | rfl <;> rfl); (case aL => rw [HDL.out]; exact p7); (case aC => exact OC.out); (case aM => exact k83_mkM _ _ _ u); intro w1 ho hb hg; have HO3 := qab.mk ho; have HB3 := qab.mk hb; clear ho hb hg HO2 HB2 e0 e1)
        go_roundg (xs.length - (k + (k2 + 1)))
        case measure => omega
        case rel => exact ⟨kk + 1, k2 + 1, dk.set kk u, by go_num, by go_num, by omega, by omega, Nat.le_refl _, by rw [List.length_set]; exact HDL.out, ⟨by have z := HO3.out; simpa using z⟩, HB3, HI2⟩
      ·have hltz2 : ¬ (k2 : Int) < ((xs.length - k : Nat) : Int) := by omega
       have hltz3 : decide (k2 < xs.length - k) = false := decide_eq_false (by omega)
       have hend : k + k2 = xs.length := by omega
       have hcl : ∀ ty, (Builtin.clear_ #[48] ty #[.slice (some ⟨g, kk * 2, none⟩) (xs.length - kk) (c - kk)]).run Try.prog wr = .ok (.tuple #[]) (wr.setCells g (kk * 2) (Builtin.zeroCells (Value.agg #[.int .i64 0, .int .i64 0]).cells (xs.length - kk)).toList) := by
        intro ty
        refine depClear wr _ _ ty _ Try.underlying48 Try.zeroValue83 g (kk * 2) _ _ (by omega) (depZeros _).2 ?_
        intro j hj
        rw [(depZeros _).1] at hj
        have hkl : kk + j / 2 < dk.length := by omega
        obtain ⟨⟨o0, o1⟩, f0, f1⟩ := dep_cell own.out rfl (kk + j / 2) hkl
        rcases Nat.mod_two_eq_zero_or_one j with r | r
        ·rw [show kk * 2 + j = (kk + j / 2) * 2 by omega]
         exact ⟨by rw [o0]; rfl, f0⟩
        ·rw [show kk * 2 + j = (kk + j / 2) * 2 + 1 by omega]
         exact ⟨by rw [o1]; rfl, f1⟩
       have HI2 := HI.out
       rw [hend] at HI2
       have hlen : (Lib.compact xs).length = kk := HI2.len
       have hdk : Lib.compact xs = dk.take kk := by
        apply List.ext_getElem?
        intro j
        by_cases hj : j < kk
        ·have z := HI2.low j hj
         have z2 : (Lib.compact xs)[j]? = some dk.toArray[j]! := z
         rw [z2, List.getElem?_take, if_pos hj, List.getElem?_eq_getElem (by omega)]
         simp [show j < dk.length by omega]
        ·rw [List.getElem?_eq_none (by omega), List.getElem?_eq_none (by rw [List.length_take]; omega)]
       have own2 : wr.ownsRow w00.heap.size 83 2 (.slice (some ⟨g, 0, none⟩) kk c) kk ((Lib.compact xs).flatMap depC) := by
        have z := Srt.own_cut own.out (m := kk) (by omega) (by omega)
        have e : (dk.flatMap depC).take (kk * 2) = (Lib.compact xs).flatMap depC := by
         rw [hdk]
         have e2 := List.take_append_drop kk dk
         conv => lhs; rw [← e2, List.flatMap_append]
         exact List.take_left' (by rw [Srt.flat_len depC 2 (fun _ => rfl), List.length_take, Nat.min_eq_left (by omega)])
        rw [e] at z
        exact z
       have own3 := qab.mk (Srt.own_beyonds (Builtin.zeroCells (Value.agg #[.int .i64 0, .int .i64 0]).cells (xs.length - kk)).toList wr (kk * 2) own2 (Nat.le_refl _))
       have HB3 := qab.mk (Srt.below_cells (Kd.qbl HO.out g (by simp [Value.ownBlock])) (Builtin.zeroCells (Value.agg #[.int .i64 0, .int .i64 0]).cells (xs.length - kk)).toList wr (kk * 2) HB.out)
       have HLN := qab.mk hlen
       have hc2 := hcl
       have p6 : ¬ c = kk := by omega
       have p7 : (0 : Int) ≤ (kk : Int) := by omega
       have p8 : kk ≤ xs.length := by omega
       clear hcl HI HI2 hlen hdk own2 own HO HB hdl
       go_wp2
       go_ret
       rw [HLN.out]
       refine ⟨rfl, dep_R (by rw [HLN.out]; exact own3.out), HB3.out⟩
    ·have q1 : decide (x = y) = false := decide_eq_false q
     have HA2 : qab (∀ j, j < k + 1 → Lib.keeps xs.toArray j = true) := ⟨fun j hj => by
      by_cases e : j = k
      ·subst e
       exact depKeeps_yes (by rw [HXY.out.1, HXY.out.2]; exact q)
      ·exact HA.out j (by omega)⟩
     rw [q1]
     clear q q1 HXY HA
     go_wp2
     go_roundg (xs.length - (k + 1))
     case measure => omega
     case rel => exact ⟨k + 1, by omega, by omega, Nat.le_refl _, by go_num, HO2, HB2, HA2⟩
   ·have hltz : ¬ (k : Int) < (xs.length : Int) := by omega
    have HL : qab (Lib.compact xs = xs) := ⟨Lib.compact_all xs (fun j hj => HA.out j (by omega))⟩
    go_wp2
    go_ret
    rw [HL.out]
    exact ⟨rfl, HO.out, HB.out⟩
/-- dependencies between 0 and 127 -/
def DepB : Type := { p : S83 // depIn p = true }
instance : Inhabited DepB := ⟨⟨z83, by decide⟩⟩
def depCB (a : DepB) : List Value := depC a.1
def depCf (a b : DepB) : Int := if a.1.f0 = b.1.f0 then a.1.f1 - b.1.f1 else a.1.f0 - b.1.f0
theorem depB_bd (a : DepB) : 0 ≤ a.1.f0 ∧ a.1.f0 ≤ 127 ∧ 0 ≤ a.1.f1 ∧ a.1.f1 ≤ 127 := of_decide_eq_true a.2
theorem depLt (a b : DepB) : Go.Proofs.ltOf depCf a b = decide (a.1.f0 < b.1.f0 ∨ (a.1.f0 = b.1.f0 ∧ a.1.f1 < b.1.f1)) := by
 unfold Go.Proofs.ltOf depCf
 split <;> (congr 1; apply propext; omega)
theorem depSWO : Go.Sort.SWO (Go.Proofs.ltOf depCf) where
 irrefl x := by rw [depLt]; simp
 trans x y z h1 h2 := by rw [depLt] at *; simp only [decide_eq_true_eq] at *; omega
 ntrans x y z h1 h2 := by rw [depLt] at *; simp only [decide_eq_false_iff_not] at *; omega
theorem depTot (x y : DepB) (h1 : Go.Proofs.ltOf depCf x y = false) (h2 : Go.Proofs.ltOf depCf y x = false) : x = y := by
 rw [depLt] at h1 h2
 simp only [decide_eq_false_iff_not] at h1 h2
 have e0 : x.1.f0 = y.1.f0 := by omega
 have e1 : x.1.f1 = y.1.f1 := by omega
 have e : x.1 = y.1 := by
  cases hx : x.1; cases hy : y.1
  rw [hx, hy] at e0 e1
  simp only at e0 e1
  rw [e0, e1]
 exact Subtype.ext e
theorem depLeB (x y : DepB) : (!Go.Proofs.ltOf depCf y x) = depLe x.1 y.1 := by
 rw [depLt]
 unfold depLe
 by_cases h : y.1.f0 < x.1.f0 ∨ (y.1.f0 = x.1.f0 ∧ y.1.f1 < x.1.f1)
 ·rw [decide_eq_true h, decide_eq_false (by omega)]; rfl
 ·rw [decide_eq_false h, decide_eq_true (by omega)]; rfl
theorem depLift : ∀ xs : List S83, xs.all depIn = true → ∃ ys : List DepB, ys.map (·.1) = xs
 | [], _ => ⟨[], rfl⟩
 | x :: xs, h => by
  simp only [List.all_cons, Bool.and_eq_true] at h
  obtain ⟨ys, e⟩ := depLift xs h.2
  exact ⟨⟨x, h.1⟩ :: ys, by subst e; rfl⟩
theorem depCB_flat (ys : List DepB) : ys.flatMap depCB = (ys.map (·.1)).flatMap depC := by
 induction ys with
 | nil => rfl
 | cons y ys ih => rw [List.flatMap_cons, List.map_cons, List.flatMap_cons, ih]; rfl
/-- compareDepends, as a function value: it lays its two parameters' boxes -/
theorem depCmp (a b : DepB) (W : World) : Calls Try.prog 119 #[.agg #[.int .i64 a.1.f0, .int .i64 a.1.f1], .agg #[.int .i64 b.1.f0, .int .i64 b.1.f1]] W fun e w' => e = .returned (.int .i64 (depCf a b)) ∧ ∃ q os', w' = Go.Sort.grow (W.drewN q) os' := by
 have ha := depB_bd a
 have hb := depB_bd b
 unfold depCf
 generalize a.1.f0 = a0 at *
 generalize a.1.f1 = a1 at *
 generalize b.1.f0 = b0 at *
 generalize b.1.f1 = b1 at *
 by_cases h : a0 = b0
 ·have h1 : (a0 == b0) = true := beq_iff_eq.2 h
  have h2 : (a0 != b0) = false := bne_eq_false_iff_eq.2 h
  rw [if_pos h]
  have HH := qab.mk h
  clear h
  go_enter Try.func119, Try.ntmps119
  go_wp2
  go_ret
  exact ⟨rfl, 0, _, by rw [Go.Sort.alloc_eq_grow, Go.Sort.alloc_eq_grow, Go.Sort.grow_grow]; rfl⟩
 ·have h1 : (a0 == b0) = false := beq_eq_false_iff_ne.2 h
  have h2 : (a0 != b0) = true := bne_iff_ne.2 h
  rw [if_neg h]
  have HH := qab.mk h
  clear h
  go_enter Try.func119, Try.ntmps119
  go_wp2
  go_ret
  exact ⟨rfl, 0, _, by rw [Go.Sort.alloc_eq_grow, Go.Sort.alloc_eq_grow, Go.Sort.grow_grow]; rfl⟩
theorem impl_arranged.abs (A : Option Addr) (c : Nat) (xs rs : List S83) (hf : impl_arranged.f xs = some rs) (w00 w : World) (hB : Below w00.heap.size w00 w) (hO : Kd.R k83 83 w w00.heap.size (fun _ => True) (.slice A xs.length c) xs) :
  Calls Try.prog 88 #[.slice A xs.length c] w fun e w' => ∃ v : Value, e = .returned v ∧ Kd.R k83 83 w' w00.heap.size (fun _ => True) v rs ∧ Below w00.heap.size w00 w' := by
 unfold impl_arranged.f at hf
 by_cases hin : xs.all depIn = true
 ·rw [if_pos hin] at hf
  by_cases hl : xs.length ≤ 100000000
  ·rw [if_pos hl] at hf
   have hrs := Option.some.inj hf
   clear hf
   have HB := qab.mk hB
   have HO := qab.mk hO
   have hc : xs.length ≤ c := (Kd.qau hO).2.1
   clear hB hO
   rcases Nat.eq_zero_or_pos xs.length with z | z
   ·obtain rfl := List.length_eq_zero_iff.1 z
    rw [List.mergeSort_nil] at hrs
    have HR : qab ([] = rs) := ⟨hrs⟩
    clear z hrs
    have hnone := fun W => AnyF.slices_SortFunc_none { Try.laysSortD with } A c (.func (.func 119) #[] #[]) W
    change ∀ W, Calls Try.prog 135 _ _ _ at hnone
    have HN := qab.mk hnone
    clear hnone
    have hemp : ∀ W, Calls Try.prog 136 #[.slice A 0 c] W fun e w' => e = .returned (.slice A 0 c) ∧ w' = W := by
     intro W
     go_enter Try.func136, Try.ntmps136
     go_wp2
     go_ret
     exact ⟨rfl, rfl⟩
    have HE := qab.mk hemp
    clear hemp
    go_enter Try.func88, Try.ntmps88
    go_wp2_with (first | (go_at_call 135; refine (HN.out _).mono ?_; rintro e w5 ⟨rfl, rfl⟩) | (go_at_call 136; refine (HE.out _).mono ?_; rintro e w6 ⟨rfl, rfl⟩))
    go_ret
    refine ⟨_, rfl, ?_, HB.out⟩
    rw [← HR.out]
    exact HO.out
   ·obtain ⟨ys, hys⟩ := depLift xs hin
    have hyl : ys.length = xs.length := by rw [← hys, List.length_map]
    have own := dep_own HO.out
    obtain ⟨g, _, hA, _⟩ := Srt.own_slice own z
    subst hA
    have ownB : w.ownsRow w00.heap.size 83 2 (.slice (some ⟨g, 0, none⟩) ys.length c) ys.length (ys.flatMap depCB) := by
     rw [hyl, depCB_flat, hys]; exact own
    obtain ⟨hH, hg, hbg⟩ := Srt.holdsK depCB 2 (fun _ => rfl) (by omega) ownB (by omega)
    have eg : ∀ args w, (callFunc 119 args).run Try.prog w = .ok (.enter 119 args) w := fun args w => by kernel_rfl
    have hcon := AnyQ.slices_SortFunc_total Try.laysSortD 2 Try.isAgg83 Try.sizeOf83 depCB (fun _ => rfl) (fun x v hv => by simp [depCB, depC] at hv; rcases hv with rfl | rfl <;> rfl) depCf depSWO 119 #[] g 0 c ys.toArray w eg (fun _ _ _ _ x y => depCmp x y _) hH hg (by simp; omega) depTot
    change Calls Try.prog 135 _ _ _ at hcon
    rw [show ys.toArray.size = xs.length by simp [hyl]] at hcon
    obtain ⟨zs, hzs⟩ : ∃ zs, zs = ys.mergeSort fun x y => !Go.Proofs.ltOf depCf y x := ⟨_, rfl⟩
    have hzl : zs.length = ys.length := by rw [hzs, List.length_mergeSort]
    have hzm : zs.map (·.1) = xs.mergeSort depLe := by
     rw [hzs, ← hys]
     exact List.map_mergeSort (fun a _ b _ => depLeB a b)
    simp only [← hzs] at hcon
    have HC := qab.mk hcon
    have OB := qab.mk ownB
    have HZ := qab.mk hzm
    have HL : qab (zs.length = ys.length ∧ 0 < ys.length) := ⟨hzl, by omega⟩
    have HR := qab.mk hrs
    clear hcon ownB hzs hzm hzl hyl hys hH own eg hrs z
    go_enter Try.func88, Try.ntmps88
    go_wp2_with (fail)
    refine (HC.out).mono ?_
    rintro e w5 ⟨rfl, n, os, hw⟩
    obtain ⟨o5, g5⟩ := Srt.putK depCB 2 (fun _ => rfl) (by omega) OB.out HL.out.2 HL.out.1 n os
    have hw2 : w5 = Go.Sort.grow (Go.Sort.putRowK depCB 2 (Go.Sort.ahead w n) g 0 zs.toArray) os := hw
    rw [← hw2, depCB_flat, HZ.out, show zs.length = (xs.mergeSort depLe).length by rw [← HZ.out, List.length_map]] at o5
    rw [← hw2] at g5
    have B5 := Below.grown HB.out g5 HB.out.size (fun k hk => by injection hk with hk; omega)
    have hcc := depCompact g c (xs.mergeSort depLe) w00 w5 B5 (dep_R o5)
    rw [List.length_mergeSort, HR.out] at hcc
    have HCC := qab.mk hcc
    clear hw hw2 o5 g5 B5 hcc HC OB HZ HL HR
    go_wp2_with (fail)
    refine (HCC.out).mono ?_
    rintro e w6 ⟨rfl, ho, hb⟩
    have HO6 := qab.mk ho
    have HB6 := qab.mk hb
    clear ho hb
    go_wp2_with (fail)
    go_ret
    exact ⟨_, rfl, HO6.out, HB6.out⟩
  ·rw [if_neg hl] at hf; exact absurd hf (by simp)
 ·rw [if_neg hin] at hf; exact absurd hf (by simp)



/-! ### impl_DependsOf: function 32 (by hand) -/
def impl_DependsOf.st (l : List S83) (q : Int × Int) : List S83 := l ++ [⟨q.1, q.2⟩]
theorem impl_DependsOf.st_fold (vs : List (Int × Int)) : ∀ l : List S83, vs.foldl impl_DependsOf.st l = l ++ vs.map fun q => ⟨q.1, q.2⟩ := by
 induction vs with
 | nil => intro l; simp
 | cons q vs ih => intro l; rw [List.foldl_cons, ih]; simp [impl_DependsOf.st]
set_option maxHeartbeats 4000000 in
set_option maxRecDepth 100000 in
/-- the visitor of DependsOf: one dependency more -/
theorem impl_DependsOf.clo (a b : Int) (l : List S83) (hl : l.length ≤ 1000000) (bo : Nat) (w00 W : World) (t : Acc k83 83 48 w00 bo l W) :
  Calls Try.prog 87 #[.int .i64 a, .int .i64 b, .pointer (some ⟨bo, 0, none⟩)] W fun e W' => e = .returned (.tuple #[]) ∧ Acc k83 83 48 w00 bo (impl_DependsOf.st l (a, b)) W' ∧ W.heap.size ≤ W'.heap.size ∧ (∀ k, k < W.heap.size → ¬ AccO 48 bo W k → W'.heap[k]? = W.heap[k]?) ∧ (∀ k, AccO 48 bo W' k → AccO 48 bo W k ∨ W.heap.size ≤ k) := by
 have hu1 := Try.underlying83
 obtain ⟨h1, h2, v, h3, h4⟩ := t
 obtain ⟨A, c, rfl, hlc, _⟩ := Kd.qcl h4
 have e0 : W.cell? ⟨bo, 0, none⟩ = some (.slice A l.length c) := (qai h3 0).trans rfl
 have f0 : W.frozen? ⟨bo, 0, none⟩ = false := qah h3 0
 have H1 := qab.mk h1
 have H2 := qab.mk h2
 have H3 := qab.mk h3
 have H4 := qab.mk h4
 clear h1 h2 h3 h4
 go_enter Try.func87, Try.ntmps87
 go_wp2_with ((with_reducible refine qbs (b := .append) (xs := #[.tmp 5, .tmp 9]) rfl ?_); (try (refine qbh (by rfl) ?_; dsimp only)); at_builtin; refine Kd.qcn k83 (w0 := w00) w00.heap.size rfl (.tmp 5) (.tmp 9) 48 83 (.agg #[.int .i64 0, .int .i64 0]) 16 rfl Try.underlying48 info83 rfl (by decide) (by omega) (.slice A l.length c) l ⟨a, b⟩ [.int .i64 a, .int .i64 b] (fun _ => True) (fun _ => False) rfl rfl ?aP (fun _ hk => hk.elim) ?aF ?aO ?aB ?aS ?aL ?_; (case aP => exact k83_mkM _ _ _ ⟨a, b⟩); (case aB => exact H1.out); (case aF => exact (fun _ _ => trivial)); (case aO => exact H4.out); (case aS => exact H1.out.size); (case aL => omega); intro v1 w1 ho hb hg hat; obtain ⟨A3, c3, rfl⟩ := Kd.qbj ho; have HP := qab.mk (Acc.put hb H2.out H3.out H4.out (by decide) ho hg hat); have e1 : w1.cell? ⟨bo, 0, none⟩ = some (.slice A l.length c) := (qai (qbr H3.out hg (Kd.R_ne H4.out H3.out (by decide))) 0).trans rfl; have f1 : w1.frozen? ⟨bo, 0, none⟩ = false := qah (qbr H3.out hg (Kd.R_ne H4.out H3.out (by decide))) 0; clear e0 f0 ho hb hg hat)
 go_end0
 refine ⟨rfl, ?_⟩
 unfold impl_DependsOf.st
 have z := HP.out
 simp only [List.length_append, List.length_singleton] at z
 exact z
def impl_DependsOf.f (k : Nat) (a0_0 : Int) (a0_1 : Int) (l0_2 : List Int) (l1_0 : List Int) : Option (List S83) := (impl_TableOk.f k a0_0 a0_1 l0_2 l1_0).bind fun t => (if t = true then ((impl_NodeCount.f a0_0 a0_1).bind fun n => ((impl_adjacent.wk k a0_0 a0_1 l0_2 l1_0 (pall n.toNat 0)).bind fun vs => (if vs.length ≤ 1000000 then impl_arranged.f (vs.foldl impl_DependsOf.st []) else none))) else (some []))
theorem impl_DependsOf.mono : ∀ a0 a1 a2 a3 k, LeO (impl_DependsOf.f k a0 a1 a2 a3) (impl_DependsOf.f (k + 1) a0 a1 a2 a3) := by
 intro a0 a1 a2 a3 k
 unfold impl_DependsOf.f
 exact LeO.bind (impl_TableOk.mono _ _ _ _ _) fun _ => LeO.ite (LeO.bind (LeO.refl _) fun _ => LeO.bind (impl_adjacent.mono_w _ _ _ _ _ _) fun _ => LeO.refl _) (LeO.refl _)
/-- what DependsOf's visitor keeps -/
theorem impl_DependsOf.vis (w00 : World) (bo : Nat) (fin : List S83) : Vis 87 #[.pointer (some ⟨bo, 0, none⟩)] w00 (fun vs W => ∃ l, Acc k83 83 48 w00 bo l W ∧ vs.foldl impl_DependsOf.st l = fin ∧ l.length + vs.length ≤ 1000000) (AccO 48 bo) where
 eg := fun args W => by kernel_rfl
 elder := fun _ _ ⟨_, h, _⟩ => h.1
 lt := fun _ _ k ⟨_, h, _⟩ hk => Acc.lt h k hk
 move := fun _ _ _ ⟨l, h, h2⟩ hb => ⟨⟨l, (Acc.move h hb).1, h2⟩, (Acc.move h hb).2⟩
 step := fun a b vs W ⟨l, h, h2, h3⟩ => by
  simp only [List.length_cons] at h3
  refine (impl_DependsOf.clo a b l (by omega) bo w00 W h).mono ?_
  rintro e W' ⟨rfl, h4, h5, h6, h7⟩
  have h8 : (impl_DependsOf.st l (a, b)).length ≤ l.length + 1 := by unfold impl_DependsOf.st; simp
  exact ⟨rfl, ⟨_, h4, h2, by omega⟩, h5, h6, h7⟩
set_option maxHeartbeats 4000000 in
set_option maxRecDepth 100000 in
theorem impl_DependsOf.calls (k : Nat) (a0_0 : Int) (a0_1 : Int) (A0_2 : Option Addr) (c0_2 : Nat) (l0_2 : List Int) (A1_0 : Option Addr) (c1_0 : Nat) (l1_0 : List Int) (r : List S83) (w : World) (hr0_2 : Kd.C (Kd.int .i64) w A0_2 l0_2.length l0_2) (hc0_2 : l0_2.length ≤ c0_2) (hr1_0 : Kd.C (Kd.int .i64) w A1_0 l1_0.length l1_0) (hc1_0 : l1_0.length ≤ c1_0) (h : impl_DependsOf.f k a0_0 a0_1 l0_2 l1_0 = some r) :
  Calls Try.prog 32 #[.agg #[.int .i64 a0_0, .int .i64 a0_1, .slice A0_2 l0_2.length c0_2], .agg #[.slice A1_0 l1_0.length c1_0]] w fun e w' => ∃ v0_ : Value, e = .returned (v0_) ∧ Kd.R k83 83 w' w.heap.size (fun _ => True) v0_ r ∧ Below w.heap.size w w' := by
 have hu1 := Try.underlying34
 have hu2 := Try.underlying36
 have hu3 := Try.underlying32
 have HR := qab.mk hr0_2
 have HR1 := qab.mk hr1_0
 have HB := qab.mk (Below.refl w.heap.size w)
 unfold impl_DependsOf.f at h
 obtain ⟨t, ht, h⟩ := Option.bind_eq_some_iff.1 h
 have HT := qab.mk ht
 have H := qab.mk h
 clear hr0_2 hr1_0 ht h
 go_enter Try.func32, Try.ntmps32
 go_upto_region 1 with (first
  | ((with_reducible refine qas (N := 2) rfl ?_); refine qar ?hg (N := 2) ?hd (cs := #[.int .i64 a0_0, .int .i64 a0_1, .slice A0_2 l0_2.length c0_2]) (t := 34) ?hr ?_; (case hd => rfl); (case hg => rfl); (case hr => first | (go_simp; done) | (go_simp; rfl)); intro gm hg w1 hbox hb; have n1 := qab.mk (qak HB.out hb); have n2 := qab.mk hbox; clear HB hb hbox hg; have HB := n1; have BKm := n2; clear n1 n2)
  | ((with_reducible refine qas (N := 3) rfl ?_); refine qar ?hg (N := 3) ?hd (cs := #[.slice A1_0 l1_0.length c1_0]) (t := 36) ?hr ?_; (case hd => rfl); (case hg => rfl); (case hr => first | (go_simp; done) | (go_simp; rfl)); intro gt hg w2 hbox hb; have n1 := qab.mk (qak HB.out hb); have n2 := qab.mk hbox; have n3 := qab.mk (qam BKm.out hb); clear HB BKm hb hbox hg; have HB := n1; have BKt := n2; have BKm := n3; clear n1 n2 n3))
 (try simp only [Act.put, List.setIfInBounds_toArray, List.set_cons_zero, List.set_cons_succ])
 go_cut [5, 6] (fun v5 v6 wc => ∃ go : Nat, v5 = .pointer (some ⟨go, 0, none⟩) ∧ qab (wc.heap[gm]? = some (.cells #[.int .i64 a0_0, .int .i64 a0_1, .slice A0_2 l0_2.length c0_2] 34 (0, 0))) ∧ qab (wc.heap[gt]? = some (.cells #[.slice A1_0 l1_0.length c1_0] 36 (0, 0))) ∧ qab (Acc k83 83 48 w go [] wc))
 case first =>
  go_wp2
  go_meet
  case rel => exact ⟨_, rfl, ⟨qaf (qaf BKm.out _) _⟩, ⟨qaf (qaf BKt.out _) _⟩, ⟨Acc.start _ _ _ HB.out⟩⟩
 clear HB BKm BKt
 obtain ⟨go, rfl, BKm, BKt, HA⟩ := hcut
 obtain ⟨ha1, ha2, va, ha3, ha4⟩ := HA.out
 have e0 : wc.cell? ⟨gm, 0, none⟩ = some (.int .i64 a0_0) := (qai BKm.out 0).trans rfl
 have e1 : wc.cell? ⟨gm, 1, none⟩ = some (.int .i64 a0_1) := (qai BKm.out 1).trans rfl
 have e2 : wc.cell? ⟨gm, 2, none⟩ = some (.slice A0_2 l0_2.length c0_2) := (qai BKm.out 2).trans rfl
 have e3 : wc.cell? ⟨gt, 0, none⟩ = some (.slice A1_0 l1_0.length c1_0) := (qai BKt.out 0).trans rfl
 have HB := qab.mk ha1
 clear ha1 ha2 ha3 ha4
 go_wp2_with (fail)
 refine (impl_TableOk.calls k a0_0 a0_1 A0_2 c0_2 l0_2 A1_0 c1_0 l1_0 t _ (Kd.qbf HR.out HB.out) hc0_2 (Kd.qbf HR1.out HB.out) hc1_0 HT.out).mono ?_
 rintro e w3 ⟨rfl, hb⟩
 clear e0 e1 e2 e3
 have n1 := qab.mk (Acc.move HA.out hb).1
 have n2 := qab.mk (qam BKm.out hb)
 have n3 := qab.mk (qam BKt.out hb)
 clear HA BKm BKt HB hb
 have HA := n1
 have BKm := n2
 have BKt := n3
 clear n1 n2 n3
 obtain ⟨ha1, ha2, va, ha3, ha4⟩ := HA.out
 obtain ⟨Aa, ca, rfl, _, _⟩ := Kd.qcl ha4
 have e4 : w3.cell? ⟨go, 0, none⟩ = some (.slice Aa 0 ca) := (qai ha3 0).trans rfl
 have HO := qab.mk ha4
 have HB := qab.mk ha1
 clear ha1 ha2 ha3 ha4
 cases t with
 | false =>
  have h := H.out
  clear H
  rw [if_neg (by decide)] at h
  obtain rfl := Option.some.inj h
  go_wp2
  go_ret
  exact ⟨_, rfl, HO.out, HB.out⟩
 | true =>
  have h := (if_pos rfl).symm.trans H.out
  clear H HO HB
  obtain ⟨n, hn, h⟩ := Option.bind_eq_some_iff.1 h
  obtain ⟨N, rfl, hN⟩ := nodes_nat hn
  rw [Int.toNat_natCast] at h
  obtain ⟨vs, hvs, h⟩ := Option.bind_eq_some_iff.1 h
  by_cases hl : vs.length ≤ 1000000
  ·rw [if_pos hl] at h
   have H6 := qab.mk h
   have HN := qab.mk hn
   have HVS := qab.mk hvs
   clear h hn hvs
   have e0 : w3.cell? ⟨gm, 0, none⟩ = some (.int .i64 a0_0) := (qai BKm.out 0).trans rfl
   have e1 : w3.cell? ⟨gm, 1, none⟩ = some (.int .i64 a0_1) := (qai BKm.out 1).trans rfl
   have e2 : w3.cell? ⟨gm, 2, none⟩ = some (.slice A0_2 l0_2.length c0_2) := (qai BKm.out 2).trans rfl
   have e3 : w3.cell? ⟨gt, 0, none⟩ = some (.slice A1_0 l1_0.length c1_0) := (qai BKt.out 0).trans rfl
   go_wp2_with (fail)
   refine (impl_adjacent.abs k a0_0 a0_1 A0_2 c0_2 l0_2 A1_0 c1_0 l1_0 N HN.out hN vs HVS.out 87 #[.pointer (some ⟨go, 0, none⟩)] w _ _ _ (impl_DependsOf.vis w go (vs.foldl impl_DependsOf.st [])) ⟨[], HA.out, rfl, by simpa using hl⟩ HR.out hc0_2 HR1.out hc1_0).mono ?_
   rintro e w4 ⟨rfl, F, hacc, hfin, _⟩
   clear e0 e1 e2 e3 e4 HA BKm BKt
   simp only [List.foldl_nil] at hfin
   rw [← hfin] at H6
   clear hfin HVS HN hl hN
   obtain ⟨h1, h2, v, h3, h4⟩ := hacc
   obtain ⟨A, c, rfl, hc, _⟩ := Kd.qcl h4
   have e0 : w4.cell? ⟨go, 0, none⟩ = some (.slice A F.length c) := (qai h3 0).trans rfl
   have HB := qab.mk h1
   have HO := qab.mk h4
   clear h1 h3 h4
   go_wp2_with (fail)
   refine (impl_arranged.abs A c F r H6.out w w4 HB.out HO.out).mono ?_
   rintro e w5 ⟨v, rfl, ho, hb⟩
   obtain ⟨A5, c5, rfl, _, _⟩ := Kd.qcl ho
   have HO5 := qab.mk ho
   have HB5 := qab.mk hb
   clear e0 ho hb HO HB
   go_wp2_with (fail)
   go_ret
   exact ⟨_, rfl, HO5.out, HB5.out⟩
  ·rw [if_neg hl] at h
   exact absurd h (by simp)



/-! ### laws_big: function 40 -/
def laws_big.f (l0 : List Int) : Option (Bool) := some (decide ((l0.length : Int) > 1048576))
set_option maxHeartbeats 8000000 in
set_option maxRecDepth 100000 in
theorem laws_big.calls (A0 : Option Addr) (c0 : Nat) (l0 : List Int) (r : Bool) (w : World) (hr0 : Kd.C (Kd.int .u8) w A0 l0.length l0) (hc0 : l0.length ≤ c0) (h : laws_big.f l0 = some r) :
  Calls Try.prog 40 #[.slice A0 l0.length c0] w fun e w' => e = .returned (.bool r) ∧ Drawn0 w w' := by
 have HR0 := qab.mk hr0
 have HC0 := qab.mk hc0
 clear hr0 hc0
 have H : (some (decide ((l0.length : Int) > 1048576))) = some r := h
 clear h
 obtain rfl := Option.some.inj H
 go_enter Try.func40, Try.ntmps40
 go_wp2
 go_ret
 exact ⟨by first | rfl | (simp; done) | (simp [*]; done), by repeat (first | exact Drawn0.refl _ | apply Drawn0.step)⟩


/-- A state of type 137 at block g of W; what its slices lead to came in by w0. -/
def IsS137 (w0 W : World) (g : Nat) (f0 : List Int) (f1 : Int) (f2 : Int) : Prop := ∃ A0 c0, W.heap[g]? = some (.cells #[.slice A0 f0.length c0, .int .i64 f1, .int .i64 f2] 137 (0, 0)) ∧ w0.heap.size ≤ g ∧ Kd.C (Kd.int .u8) w0 A0 f0.length f0
theorem IsS137.grown {w0 W : World} {g : Nat} {f0 : List Int} {f1 : Int} {f2 : Int} {W1 : World} {row : Option Nat} (h : IsS137 w0 W g f0 f1 f2) (hw : W.grownBy W1 row) (hne : some g ≠ row) : IsS137 w0 W1 g f0 f1 f2 := by
 obtain ⟨A0, c0, hb, hg, hr0⟩ := h
 exact ⟨A0, c0, qbr hb hw hne, hg, hr0⟩
theorem IsS137.own_neN {w0 W : World} {g : Nat} {f0 : List Int} {f1 : Int} {f2 : Int} {α : Type} {d : Kd α} {e : Nat} {base : Nat} {ok : Nat → Prop} {v : Value} {xs : List α} (h : IsS137 w0 W g f0 f1 f2) (ho : Kd.N d e W base ok v xs) (ht : e ≠ 137) : some g ≠ v.ownBlock := by
 obtain ⟨A0, c0, hb, hg, hr0⟩ := h
 exact Kd.N_ne ho hb ht
theorem IsS137.fresh {w0 W : World} {g : Nat} {f0 : List Int} {f1 : Int} {f2 : Int} (h : IsS137 w0 W g f0 f1 f2) : ∀ k, W.heap.size ≤ k → k ≠ g := by
 obtain ⟨A0, c0, hb, hg, hr0⟩ := h
 exact Kd.freshB hb
theorem IsS137.kept {w0 W : World} {g : Nat} {f0 : List Int} {f1 : Int} {f2 : Int} {W1 : World} {S : Nat → Prop} (h : IsS137 w0 W g f0 f1 f2) (hk : Kept W W1 S) (hne : ¬ S g) : IsS137 w0 W1 g f0 f1 f2 := by
 obtain ⟨A0, c0, hb, hg, hr0⟩ := h
 exact ⟨A0, c0, qdm hb hk hne, hg, hr0⟩
theorem IsS137.below {w0 W : World} {g : Nat} {f0 : List Int} {f1 : Int} {f2 : Int} {W1 : World} (h : IsS137 w0 W g f0 f1 f2) (hw : Below W.heap.size W W1) : IsS137 w0 W1 g f0 f1 f2 := h.grown (qcy hw none) (by simp)
theorem IsS137.alloc {w0 W : World} {g : Nat} {f0 : List Int} {f1 : Int} {f2 : Int} (h : IsS137 w0 W g f0 f1 f2) (o : Obj) : IsS137 w0 (W.alloc o) g f0 f1 f2 := h.below (qad (Below.refl _ _) o)
theorem IsS137.drewN {w0 W : World} {g : Nat} {f0 : List Int} {f1 : Int} {f2 : Int} (h : IsS137 w0 W g f0 f1 f2) (m : Nat) : IsS137 w0 (W.drewN m) g f0 f1 f2 := h
theorem IsS137.drew {w0 W : World} {g : Nat} {f0 : List Int} {f1 : Int} {f2 : Int} (h : IsS137 w0 W g f0 f1 f2) : IsS137 w0 W.drew g f0 f1 f2 := h
theorem IsS137.at_ {w0 W : World} {g : Nat} {f0 : List Int} {f1 : Int} {f2 : Int} {w' : World} {m : Nat} (hq : W.drewN m = w') (h : IsS137 w0 W g f0 f1 f2) : IsS137 w0 w' g f0 f1 f2 := by subst hq; exact IsS137.drewN h m
theorem IsS137.apart {w0 W : World} {g : Nat} {f0 : List Int} {f1 : Int} {f2 : Int} {α : Type} {d : Kd α} {e : Nat} {base : Nat} {ok : Nat → Prop} {v : Value} {xs : List α} (h : IsS137 w0 W g f0 f1 f2) (ho : d.R e W base ok v xs) (ht : ∀ q, q ∈ e :: d.E → q ≠ 137) : d.R e W base (fun k => ok k ∧ k ≠ g) v xs := by
 obtain ⟨A0, c0, hb, hg, hr0⟩ := h
 exact Kd.qbg ho hb ht
theorem IsS137.qcv {w0 W : World} {g : Nat} {f0 : List Int} {f1 : Int} {f2 : Int} {α : Type} {d : Kd α} {e : Nat} {base : Nat} {ok : Nat → Prop} {v : Value} {xs : List α} (h : IsS137 w0 W g f0 f1 f2) (ho : d.R e W base ok v xs) (ht : e ≠ 137) : some g ≠ v.ownBlock := by
 obtain ⟨A0, c0, hb, hg, hr0⟩ := h
 exact Kd.R_ne ho hb ht
theorem IsS137.apartQ {w0 W : World} {g : Nat} {f0 : List Int} {f1 : Int} {f2 : Int} {α : Type} {d : Kd α} {e : Nat} {base : Nat} {ok : Nat → Prop} {v : Value} {xs : List α} (h : IsS137 w0 W g f0 f1 f2) (ho : d.Q e W base ok v xs) (ht : ∀ q, q ∈ e :: d.E → q ≠ 137) : d.Q e W base (fun k => ok k ∧ k ≠ g) v xs := by
 obtain ⟨A0, c0, hb, hg, hr0⟩ := h
 exact Kd.qdr ho hb ht
theorem IsS137.own_neQ {w0 W : World} {g : Nat} {f0 : List Int} {f1 : Int} {f2 : Int} {α : Type} {d : Kd α} {e : Nat} {base : Nat} {ok : Nat → Prop} {v : Value} {xs : List α} (h : IsS137 w0 W g f0 f1 f2) (ho : d.Q e W base ok v xs) (ht : e ≠ 137) : some g ≠ v.ownBlock := by
 obtain ⟨A0, c0, hb, hg, hr0⟩ := h
 exact Kd.Q_ne ho hb ht
theorem IsS137.apartS {w0 W : World} {g : Nat} {f0 : List Int} {f1 : Int} {f2 : Int} {α : Type} {d : Kd α} {e : Nat} {base : Nat} {ok : Nat → Prop} {v : Value} {xs : List α} (h : IsS137 w0 W g f0 f1 f2) (ho : d.S e W base ok v xs) (ht : ∀ q, q ∈ e :: d.E → q ≠ 137) : d.S e W base (fun k => ok k ∧ k ≠ g) v xs := by
 obtain ⟨A0, c0, hb, hg, hr0⟩ := h
 exact Kd.qdn ho hb ht
theorem IsS137.own_neS {w0 W : World} {g : Nat} {f0 : List Int} {f1 : Int} {f2 : Int} {α : Type} {d : Kd α} {e : Nat} {base : Nat} {ok : Nat → Prop} {v : Value} {xs : List α} (h : IsS137 w0 W g f0 f1 f2) (ho : d.S e W base ok v xs) (ht : e ≠ 137) : some g ≠ v.ownBlock := by
 obtain ⟨A0, c0, hb, hg, hr0⟩ := h
 exact Kd.S_ne ho hb ht
theorem IsS137.lt {w0 W : World} {g : Nat} {f0 : List Int} {f1 : Int} {f2 : Int} (h : IsS137 w0 W g f0 f1 f2) : g < W.heap.size := by
 obtain ⟨A0, c0, hb, hg, hr0⟩ := h
 exact qbo hb
theorem IsS137.ge {w0 W : World} {g : Nat} {f0 : List Int} {f1 : Int} {f2 : Int} (h : IsS137 w0 W g f0 f1 f2) : w0.heap.size ≤ g := by
 obtain ⟨A0, c0, hb, hg, hr0⟩ := h
 exact hg
theorem IsS137.ne_blk {w0 W : World} {g : Nat} {f0 : List Int} {f1 : Int} {f2 : Int} {a : Nat} {cs : Array Value} {t : TypeId} {fr : Nat × Nat} (h : IsS137 w0 W g f0 f1 f2) (hb2 : W.heap[a]? = some (.cells cs t fr)) (ht : t ≠ 137) : g ≠ a := by
 obtain ⟨A0, c0, hb, hg, hr0⟩ := h
 rintro rfl
 rw [hb] at hb2
 injection hb2 with hb2
 injection hb2 with _ ht2
 exact ht ht2.symm
theorem IsS137.far {w0 W : World} {g : Nat} {f0 : List Int} {f1 : Int} {f2 : Int} {p : Addr} (h : IsS137 w0 W g f0 f1 f2) (hne : g ≠ p.block) (u : Value) : IsS137 w0 (W.setCell p u) g f0 f1 f2 := by
 obtain ⟨A0, c0, hb, hg, hr0⟩ := h
 exact ⟨A0, c0, qbq hb hne u, hg, hr0⟩
theorem cellS137_0 {W : World} {g : Nat} {A0 : Option Addr} {c0 : Nat} {f0 : List Int} {f1 : Int} {f2 : Int} (h : W.heap[g]? = some (.cells #[.slice A0 f0.length c0, .int .i64 f1, .int .i64 f2] 137 (0, 0))) : W.cell? ⟨g, 0, none⟩ = some (.slice A0 f0.length c0) := (qai h 0).trans rfl
theorem cellS137_1 {W : World} {g : Nat} {A0 : Option Addr} {c0 : Nat} {f0 : List Int} {f1 : Int} {f2 : Int} (h : W.heap[g]? = some (.cells #[.slice A0 f0.length c0, .int .i64 f1, .int .i64 f2] 137 (0, 0))) : W.cell? ⟨g, 1, none⟩ = some (.int .i64 f1) := (qai h 1).trans rfl
theorem IsS137.set_1 {w0 W : World} {g : Nat} {f0 : List Int} {f1 : Int} {f2 : Int} (h : IsS137 w0 W g f0 f1 f2) (x : Int) : IsS137 w0 (W.setCell ⟨g, 1, none⟩ (.int .i64 x)) g f0 x f2 := by
 obtain ⟨A0, c0, hb, hg, hr0⟩ := h
 exact ⟨A0, c0, by simpa using qdc hb 1 (.int .i64 x), hg, hr0⟩
theorem cellS137_2 {W : World} {g : Nat} {A0 : Option Addr} {c0 : Nat} {f0 : List Int} {f1 : Int} {f2 : Int} (h : W.heap[g]? = some (.cells #[.slice A0 f0.length c0, .int .i64 f1, .int .i64 f2] 137 (0, 0))) : W.cell? ⟨g, 2, none⟩ = some (.int .i64 f2) := (qai h 2).trans rfl
theorem IsS137.set_2 {w0 W : World} {g : Nat} {f0 : List Int} {f1 : Int} {f2 : Int} (h : IsS137 w0 W g f0 f1 f2) (x : Int) : IsS137 w0 (W.setCell ⟨g, 2, none⟩ (.int .i64 x)) g f0 f1 x := by
 obtain ⟨A0, c0, hb, hg, hr0⟩ := h
 exact ⟨A0, c0, by simpa using qdc hb 2 (.int .i64 x), hg, hr0⟩
theorem IsS137.new (w0 W : World) (A0 : Option Addr) (c0 : Nat) (f0 : List Int) (f1 : Int) (f2 : Int) (hB : Below w0.heap.size w0 W) (hr0 : Kd.C (Kd.int .u8) w0 A0 f0.length f0) : IsS137 w0 (W.alloc (.cells #[.slice A0 f0.length c0, .int .i64 f1, .int .i64 f2] 137)) W.heap.size f0 f1 f2 := ⟨A0, c0, by simpa using heap_alloc_new W _, hB.size, hr0⟩

/-! ### spec_l01New: function 95 -/
def spec_l01New.l0 : Nat → List Int → Int → Int → Option (List Int × Int × Int)
 | 0, _, _, _ => none
 | k + 1, x0, x3, x4 => if x4 < (x0.length : Int) then (if x4 < 4000 then (if 0 ≤ x4 then (spec_l01New.l0 k x0 (Go.bits .and .i64 (wrap64 ((wrap64 ((wrap64 (x3 * 131)) + (wrap64 (rd x0 x4)))) + 7)) 1073741823) (wrap64 (x4 + 1))) else (none)) else (some (x0, 0, x3))) else (some (x0, 0, x3))
def spec_l01New.f (k : Nat) (l0 : List Int) : Option (List Int × Int × Int) := spec_l01New.l0 k l0 (wrap64 (98459 + (l0.length : Int))) 0
theorem spec_l01New.mono_l : ∀ k, (∀ y0 y1 y2, LeO (spec_l01New.l0 k y0 y1 y2) (spec_l01New.l0 (k + 1) y0 y1 y2))
 | 0 => fun _ _ _ r h => by simp [spec_l01New.l0] at h
 | k + 1 => by
  have ih0 := spec_l01New.mono_l k
  ·intro y0 y1 y2
   unfold spec_l01New.l0
   repeat' first
   | (with_reducible exact ih0 _ _ _)
   | (with_reducible exact LeO.refl _)
   | (with_reducible exact LeO.none _)
   | (with_reducible refine LeO.ite ?_ ?_)
   | (with_reducible refine LeO.bind ?_ (fun _ => ?_))
   | exact ih0 _ _ _
   | exact LeO.none _
   | refine LeO.ite ?_ ?_
   | refine LeO.bind ?_ (fun _ => ?_)
theorem spec_l01New.mono : ∀ a0 k, LeO (spec_l01New.f k a0) (spec_l01New.f (k + 1) a0) := by
 intro a0 k
 have ih0 := spec_l01New.mono_l k
 unfold spec_l01New.f
 repeat' first
   | (with_reducible exact ih0 _ _ _)
   | (with_reducible exact LeO.refl _)
   | (with_reducible exact LeO.none _)
   | (with_reducible refine LeO.ite ?_ ?_)
   | (with_reducible refine LeO.bind ?_ (fun _ => ?_))
   | exact ih0 _ _ _
   | exact LeO.none _
   | refine LeO.ite ?_ ?_
   | refine LeO.bind ?_ (fun _ => ?_)
set_option maxHeartbeats 8000000 in
set_option maxRecDepth 100000 in
theorem spec_l01New.calls (k : Nat) (A0 : Option Addr) (c0 : Nat) (l0 : List Int) (r1 : List Int) (r2 : Int) (r3 : Int) (w0 w : World) (hB : Below w0.heap.size w0 w) (hr0 : Kd.C (Kd.int .u8) w0 A0 l0.length l0) (hc0 : l0.length ≤ c0) (h : spec_l01New.f k l0 = some (r1, r2, r3)) :
  Calls Try.prog 95 #[.slice A0 l0.length c0] w fun e w' => ∃ g_ : Nat, e = .returned (.pointer (some ⟨g_, 0, none⟩)) ∧ IsS137 w0 w' g_ r1 r2 r3 ∧ Below w0.heap.size w0 w' ∧ Below w.heap.size w w' := by
 have hu137 := Try.underlying137
 have HR0 := qab.mk hr0
 have HC0 := qab.mk hc0
 clear hr0 hc0
 have HBW := qab.mk (Below.refl w.heap.size w)
 have HW0 := qab.mk hB.size
 have HB := qab.mk hB
 clear hB
 have H : (spec_l01New.l0 k l0 (wrap64 (98459 + (l0.length : Int))) 0) = some (r1, r2, r3) := h
 clear h
 have H' := qab.mk H
 clear H
 go_enter Try.func95, Try.ntmps95
 go_wp2
 go_loopg [3, 4] k (fun kq v3 v4 w' => ∃ (x3_1 : Int) (x4_1 : Int), v3 = .int .i64 x3_1 ∧ v4 = .int .i64 x4_1 ∧ qab (spec_l01New.l0 kq l0 x3_1 x4_1 = some (r1, r2, r3)) ∧ qab (kq ≤ k) ∧ qab (Below w0.heap.size w0 w') ∧ qab (Below w.heap.size w w'))
 case atStart => exact ⟨(wrap64 (98459 + (l0.length : Int))), (0), (by first | rfl | (simp; done) | (simp [*]; done)), (by first | rfl | (simp; done) | (simp [*]; done)), H', ⟨Nat.le_refl _⟩, ⟨by repeat (first | (with_reducible first | exact HB.out | apply qad | apply qaa | apply qac) | exact HB.out)⟩, ⟨by repeat (first | (with_reducible first | exact HBW.out | apply qad | apply qaa | apply qac) | exact HBW.out)⟩⟩
 case round =>
  clear H'
  obtain ⟨x3_1, x4_1, rfl, rfl, HA, HK1, HB, HBW⟩ := hrel
  cases gk with
  | zero => exact absurd HA.out (by simp [spec_l01New.l0])
  | succ k1 =>
   have H := HA.out
   clear HA
   simp only [spec_l01New.l0] at H
   by_cases c2 : x4_1 < (l0.length : Int)
   ·rw [if_pos c2] at H
    have c2b0 : decide (x4_1 < (l0.length : Int)) = true := decide_eq_true c2
    clear c2
    by_cases c3 : x4_1 < 4000
    ·rw [if_pos c3] at H
     have c3b0 : decide (x4_1 < 4000) = true := decide_eq_true c3
     clear c3
     by_cases c4 : 0 ≤ x4_1
     ·rw [if_pos c4] at H
      have c4b0 : decide (0 ≤ x4_1) = true := decide_eq_true c4
      clear c4
      have H' := qab.mk H
      clear H
      have p176 : 0 ≤ (x4_1 : Int) := of_decide_eq_true (by first | (with_reducible assumption) | assumption)
      have q176 : x4_1 < (l0.length : Int) := of_decide_eq_true (by first | (with_reducible assumption) | assumption)
      obtain ⟨ad176, e176, hx176_0⟩ := Kd.qcc HR0.out x4_1 p176 q176
      cases e176
      replace hx176_0 := qct HB.out hx176_0
      replace p176 := eq_true p176
      replace q176 := eq_true q176
      go_wp2
      go_roundg k1
      case measure => have := HK1.out; omega
      case rel => exact ⟨(Go.bits .and .i64 (wrap64 ((wrap64 ((wrap64 (x3_1 * 131)) + (wrap64 (rd l0 x4_1)))) + 7)) 1073741823), (wrap64 (x4_1 + 1)), (by first | rfl | (simp; done) | (simp [*]; done)), (by first | rfl | (simp; done) | (simp [*]; done)), H', ⟨by have := HK1.out; omega⟩, ⟨by repeat (first | (with_reducible first | exact HB.out | apply qad | apply qaa | apply qac) | exact HB.out)⟩, ⟨by repeat (first | (with_reducible first | exact HBW.out | apply qad | apply qaa | apply qac) | exact HBW.out)⟩⟩
     ·rw [if_neg c4] at H
      exact absurd H (by simp)
    ·rw [if_neg c3] at H
     have c3b0 : decide (x4_1 < 4000) = false := decide_eq_false c3
     clear c3
     simp only [Option.some.injEq, Prod.mk.injEq] at H
     obtain ⟨rfl, rfl, rfl⟩ := H
     go_wp2_with (first | ((with_reducible refine qas (N := 31) rfl ?_); refine qar ?hg (N := 31) ?hd (cs := #[.slice A0 l0.length c0, .int .i64 0, .int .i64 x3_1]) (t := 137) ?hr ?_; (case hd => rfl); (case hg => rfl); (case hr => first | (go_simp; done) | (go_simp; rfl)); intro gb177 hg w5 hbox hb; have n0_ := qab.mk (qak HBW.out hb); have n1_ := qab.mk (qak (by repeat (first | (with_reducible first | exact HB.out | apply qad | apply qaa | apply qac) | exact HB.out)) hb); have n2_ := qab.mk (hbox); have n3_ := qab.mk ((by rw [hg]; exact (qal (by repeat (first | (with_reducible first | exact HBW.out | apply qad | apply qaa | apply qac) | exact HBW.out))) : w.heap.size ≤ gb177)); have n4_ := qab.mk ((Nat.le_trans HW0.out (by rw [hg]; exact (qal (by repeat (first | (with_reducible first | exact HBW.out | apply qad | apply qaa | apply qac) | exact HBW.out))) : w.heap.size ≤ gb177) : w0.heap.size ≤ gb177)); clear HBW; clear HB; have HBW := n0_; have HB := n1_; have BK177 := n2_; have GW177 := n3_; have GE177 := n4_; clear n0_ n1_ n2_ n3_ n4_; clear hb hbox hg))
     go_ret
     exact ⟨_, rfl, (show IsS137 w0 _ gb177 l0 0 x3_1 from ⟨_, _, by (with_reducible repeat (first | refine qag ?_ _ | refine qaj ?_ | refine qaf ?_ _)); exact BK177.out, GE177.out, HR0.out⟩), by repeat (first | (with_reducible first | exact HB.out | apply qad | apply qaa | apply qac | refine qae ?_ GE177.out) | exact HB.out), by repeat (first | (with_reducible first | exact HBW.out | apply qad | apply qaa | apply qac | refine qae ?_ GW177.out) | exact HBW.out)⟩
   ·rw [if_neg c2] at H
    have c2b0 : decide (x4_1 < (l0.length : Int)) = false := decide_eq_false c2
    clear c2
    simp only [Option.some.injEq, Prod.mk.injEq] at H
    obtain ⟨rfl, rfl, rfl⟩ := H
    go_wp2_with (first | ((with_reducible refine qas (N := 31) rfl ?_); refine qar ?hg (N := 31) ?hd (cs := #[.slice A0 l0.length c0, .int .i64 0, .int .i64 x3_1]) (t := 137) ?hr ?_; (case hd => rfl); (case hg => rfl); (case hr => first | (go_simp; done) | (go_simp; rfl)); intro gb178 hg w6 hbox hb; have n0_ := qab.mk (qak HBW.out hb); have n1_ := qab.mk (qak (by repeat (first | (with_reducible first | exact HB.out | apply qad | apply qaa | apply qac) | exact HB.out)) hb); have n2_ := qab.mk (hbox); have n3_ := qab.mk ((by rw [hg]; exact (qal (by repeat (first | (with_reducible first | exact HBW.out | apply qad | apply qaa | apply qac) | exact HBW.out))) : w.heap.size ≤ gb178)); have n4_ := qab.mk ((Nat.le_trans HW0.out (by rw [hg]; exact (qal (by repeat (first | (with_reducible first | exact HBW.out | apply qad | apply qaa | apply qac) | exact HBW.out))) : w.heap.size ≤ gb178) : w0.heap.size ≤ gb178)); clear HBW; clear HB; have HBW := n0_; have HB := n1_; have BK178 := n2_; have GW178 := n3_; have GE178 := n4_; clear n0_ n1_ n2_ n3_ n4_; clear hb hbox hg))
    go_ret
    exact ⟨_, rfl, (show IsS137 w0 _ gb178 l0 0 x3_1 from ⟨_, _, by (with_reducible repeat (first | refine qag ?_ _ | refine qaj ?_ | refine qaf ?_ _)); exact BK178.out, GE178.out, HR0.out⟩), by repeat (first | (with_reducible first | exact HB.out | apply qad | apply qaa | apply qac | refine qae ?_ GE178.out) | exact HB.out), by repeat (first | (with_reducible first | exact HBW.out | apply qad | apply qaa | apply qac | refine qae ?_ GW178.out) | exact HBW.out)⟩


/-! ### spec_l01Byte: function 139 -/
def spec_l01Byte.f (s0_0 : List Int) (s0_1 : Int) (s0_2 : Int) : Option (Int × Int × Int) := if s0_1 < (s0_0.length : Int) then (if 0 ≤ s0_1 then (some (Go.bits .and .i64 (wrap64 ((Go.bits .and .i64 (Go.bits .xor .i64 ((wrap64 ((wrap64 (s0_2 * 6364136223846793005)) + 1442695040888963407)) / 8589934592) ((wrap64 ((wrap64 (s0_2 * 6364136223846793005)) + 1442695040888963407)) / 35184372088832)) 255) + (wrap64 (rd s0_0 s0_1)))) 255, wrap64 (s0_1 + 1), wrap64 ((wrap64 (s0_2 * 6364136223846793005)) + 1442695040888963407))) else (none)) else (some (Go.bits .and .i64 (Go.bits .xor .i64 ((wrap64 ((wrap64 (s0_2 * 6364136223846793005)) + 1442695040888963407)) / 8589934592) ((wrap64 ((wrap64 (s0_2 * 6364136223846793005)) + 1442695040888963407)) / 35184372088832)) 255, s0_1, wrap64 ((wrap64 (s0_2 * 6364136223846793005)) + 1442695040888963407)))
set_option maxHeartbeats 8000000 in
set_option maxRecDepth 100000 in
theorem spec_l01Byte.calls (g : Nat) (s0_0 : List Int) (s0_1 : Int) (s0_2 : Int) (r1 : Int) (r2 : Int) (r3 : Int) (w0 w : World) (hI : IsS137 w0 w g s0_0 s0_1 s0_2) (hB : Below w0.heap.size w0 w) (h : spec_l01Byte.f s0_0 s0_1 s0_2 = some (r1, r2, r3)) :
  Calls Try.prog 139 #[.pointer (some ⟨g, 0, none⟩)] w fun e w' => e = .returned (.int .i64 r1) ∧ IsS137 w0 w' g s0_0 r2 r3 ∧ Below w0.heap.size w0 w' ∧ KeepBut w w' g none := by
 have HI0 := qab.mk hI
 have HK := qab.mk (KeepBut.refl w g none)
 have HL := qab.mk hB.size
 clear hI
 have HW0 := qab.mk hB.size
 have HB := qab.mk hB
 clear hB
 have H : (if s0_1 < (s0_0.length : Int) then (if 0 ≤ s0_1 then (some (Go.bits .and .i64 (wrap64 ((Go.bits .and .i64 (Go.bits .xor .i64 ((wrap64 ((wrap64 (s0_2 * 6364136223846793005)) + 1442695040888963407)) / 8589934592) ((wrap64 ((wrap64 (s0_2 * 6364136223846793005)) + 1442695040888963407)) / 35184372088832)) 255) + (wrap64 (rd s0_0 s0_1)))) 255, wrap64 (s0_1 + 1), wrap64 ((wrap64 (s0_2 * 6364136223846793005)) + 1442695040888963407))) else (none)) else (some (Go.bits .and .i64 (Go.bits .xor .i64 ((wrap64 ((wrap64 (s0_2 * 6364136223846793005)) + 1442695040888963407)) / 8589934592) ((wrap64 ((wrap64 (s0_2 * 6364136223846793005)) + 1442695040888963407)) / 35184372088832)) 255, s0_1, wrap64 ((wrap64 (s0_2 * 6364136223846793005)) + 1442695040888963407)))) = some (r1, r2, r3) := h
 clear h
 by_cases c2 : s0_1 < (s0_0.length : Int)
 ·rw [if_pos c2] at H
  have c2b0 : decide (s0_1 < (s0_0.length : Int)) = true := decide_eq_true c2
  clear c2
  by_cases c3 : 0 ≤ s0_1
  ·rw [if_pos c3] at H
   have c3b0 : decide (0 ≤ s0_1) = true := decide_eq_true c3
   clear c3
   simp only [Option.some.injEq, Prod.mk.injEq] at H
   obtain ⟨rfl, rfl, rfl⟩ := H
   obtain ⟨ASz4_0, cSz4_0, HGz4, hgz4, HSz4_0⟩ := HI0.out
   have hcz4_0 := cellS137_0 HGz4
   have hcz4_1 := cellS137_1 HGz4
   have hcz4_2 := cellS137_2 HGz4
   have hfz4_1 := qah HGz4 1
   have hfz4_2 := qah HGz4 2
   clear HGz4 hgz4
   have p179 : 0 ≤ (s0_1 : Int) := of_decide_eq_true (by first | (with_reducible assumption) | assumption)
   have q179 : s0_1 < (s0_0.length : Int) := of_decide_eq_true (by first | (with_reducible assumption) | assumption)
   obtain ⟨ad179, e179, hx179_0⟩ := Kd.qcc HSz4_0 s0_1 p179 q179
   cases e179
   have hn179_0 : ad179.block ≠ g := Nat.ne_of_lt (Nat.lt_of_lt_of_le (by have := World.block_lt_of_cell? _ _ hx179_0; first | rwa [qcp] at this | exact this) (IsS137.ge HI0.out))
   replace hx179_0 := qct HB.out hx179_0
   replace hx179_0 := (qbw (p := ⟨g, 2, none⟩) (by first | (rw [qcp]; exact hn179_0) | (show (Addr.add _ _).block ≠ _; rw [qcp]; exact hn179_0) | exact hn179_0) (.int .i64 (wrap64 ((wrap64 (s0_2 * 6364136223846793005)) + 1442695040888963407)))).trans hx179_0
   (try have hy179_0 := fun (n_ : Nat) => (show (((w.drewN n_).setCell ⟨g, 2, none⟩ (.int .i64 (wrap64 ((wrap64 (s0_2 * 6364136223846793005)) + 1442695040888963407))))).cell? _ = some _ from hx179_0))
   clear hn179_0
   replace p179 := eq_true p179
   replace q179 := eq_true q179
   go_enter Try.func139, Try.ntmps139
   go_wp2
   repeat (go_quiet (fail); try go_wp2)
   go_ret
   exact ⟨by first | rfl | (simp [errW_none, errW_some] <;> rfl) | (simp [*, errW_none, errW_some] <;> rfl), by repeat (first | (with_reducible first | exact HI0.out | apply IsS137.alloc | apply IsS137.drewN | apply IsS137.drew | apply IsS137.set_1 | apply IsS137.set_2) | exact HI0.out), by repeat (first | (with_reducible first | exact HB.out | apply qad | apply qaa | apply qac | refine qae ?_ (IsS137.ge HI0.out)) | exact HB.out), by repeat (first | (with_reducible first | exact HK.out | apply KeepBut.set_ | apply qaw | apply qba | apply qax) | exact HK.out)⟩
  ·rw [if_neg c3] at H
   exact absurd H (by simp)
 ·rw [if_neg c2] at H
  have c2b0 : decide (s0_1 < (s0_0.length : Int)) = false := decide_eq_false c2
  clear c2
  simp only [Option.some.injEq, Prod.mk.injEq] at H
  obtain ⟨rfl, rfl, rfl⟩ := H
  obtain ⟨ASz5_0, cSz5_0, HGz5, hgz5, HSz5_0⟩ := HI0.out
  have hcz5_0 := cellS137_0 HGz5
  have hcz5_1 := cellS137_1 HGz5
  have hcz5_2 := cellS137_2 HGz5
  have hfz5_1 := qah HGz5 1
  have hfz5_2 := qah HGz5 2
  clear HGz5 hgz5
  go_enter Try.func139, Try.ntmps139
  go_wp2
  repeat (go_quiet (fail); try go_wp2)
  go_ret
  exact ⟨by first | rfl | (simp [errW_none, errW_some] <;> rfl) | (simp [*, errW_none, errW_some] <;> rfl), by repeat (first | (with_reducible first | exact HI0.out | apply IsS137.alloc | apply IsS137.drewN | apply IsS137.drew | apply IsS137.set_1 | apply IsS137.set_2) | exact HI0.out), by repeat (first | (with_reducible first | exact HB.out | apply qad | apply qaa | apply qac | refine qae ?_ (IsS137.ge HI0.out)) | exact HB.out), by repeat (first | (with_reducible first | exact HK.out | apply KeepBut.set_ | apply qaw | apply qba | apply qax) | exact HK.out)⟩


/-! ### spec_l01Below: function 96 -/
def spec_l01Below.f (s0_0 : List Int) (s0_1 : Int) (s0_2 : Int) (a1 : Int) : Option (Int × Int × Int) := if a1 ≤ 0 then (some (0, s0_1, s0_2)) else (if a1 ≤ 256 then ((spec_l01Byte.f s0_0 s0_1 s0_2).bind fun bt180 => (if a1 = 0 then (none) else (some (Int.tmod bt180.1 a1, bt180.2.1, bt180.2.2)))) else ((spec_l01Byte.f s0_0 s0_1 s0_2).bind fun bt183 => ((spec_l01Byte.f s0_0 bt183.2.1 bt183.2.2).bind fun bt186 => ((spec_l01Byte.f s0_0 bt186.2.1 bt186.2.2).bind fun bt189 => ((spec_l01Byte.f s0_0 bt189.2.1 bt189.2.2).bind fun bt192 => (if a1 = 0 then (none) else (some (Int.tmod (wrap64 ((wrap64 ((wrap64 ((wrap64 (bt183.1 * 16777216)) + (wrap64 (bt186.1 * 65536)))) + (wrap64 (bt189.1 * 256)))) + bt192.1)) a1, bt192.2.1, bt192.2.2))))))))
set_option maxHeartbeats 8000000 in
set_option maxRecDepth 100000 in
theorem spec_l01Below.calls (g : Nat) (s0_0 : List Int) (s0_1 : Int) (s0_2 : Int) (a1 : Int) (r1 : Int) (r2 : Int) (r3 : Int) (w0 w : World) (hI : IsS137 w0 w g s0_0 s0_1 s0_2) (hB : Below w0.heap.size w0 w) (h : spec_l01Below.f s0_0 s0_1 s0_2 a1 = some (r1, r2, r3)) :
  Calls Try.prog 96 #[.pointer (some ⟨g, 0, none⟩), .int .i64 a1] w fun e w' => e = .returned (.int .i64 r1) ∧ IsS137 w0 w' g s0_0 r2 r3 ∧ Below w0.heap.size w0 w' ∧ KeepBut w w' g none := by
 have HI0 := qab.mk hI
 have HK := qab.mk (KeepBut.refl w g none)
 have HL := qab.mk hB.size
 clear hI
 have HW0 := qab.mk hB.size
 have HB := qab.mk hB
 clear hB
 have H : (if a1 ≤ 0 then (some (0, s0_1, s0_2)) else (if a1 ≤ 256 then ((spec_l01Byte.f s0_0 s0_1 s0_2).bind fun bt180 => (if a1 = 0 then (none) else (some (Int.tmod bt180.1 a1, bt180.2.1, bt180.2.2)))) else ((spec_l01Byte.f s0_0 s0_1 s0_2).bind fun bt183 => ((spec_l01Byte.f s0_0 bt183.2.1 bt183.2.2).bind fun bt186 => ((spec_l01Byte.f s0_0 bt186.2.1 bt186.2.2).bind fun bt189 => ((spec_l01Byte.f s0_0 bt189.2.1 bt189.2.2).bind fun bt192 => (if a1 = 0 then (none) else (some (Int.tmod (wrap64 ((wrap64 ((wrap64 ((wrap64 (bt183.1 * 16777216)) + (wrap64 (bt186.1 * 65536)))) + (wrap64 (bt189.1 * 256)))) + bt192.1)) a1, bt192.2.1, bt192.2.2))))))))) = some (r1, r2, r3) := h
 clear h
 by_cases c3 : a1 ≤ 0
 ·rw [if_pos c3] at H
  have c3b0 : decide (a1 ≤ 0) = true := decide_eq_true c3
  clear c3
  simp only [Option.some.injEq, Prod.mk.injEq] at H
  obtain ⟨rfl, rfl, rfl⟩ := H
  go_enter Try.func96, Try.ntmps96
  go_wp2
  go_ret
  exact ⟨by first | rfl | (simp [errW_none, errW_some] <;> rfl) | (simp [*, errW_none, errW_some] <;> rfl), by repeat (first | (with_reducible first | exact HI0.out | apply IsS137.alloc | apply IsS137.drewN | apply IsS137.drew | apply IsS137.set_1 | apply IsS137.set_2) | exact HI0.out), by repeat (first | (with_reducible first | exact HB.out | apply qad | apply qaa | apply qac | refine qae ?_ (IsS137.ge HI0.out)) | exact HB.out), by repeat (first | (with_reducible first | exact HK.out | apply KeepBut.set_ | apply qaw | apply qba | apply qax) | exact HK.out)⟩
 ·rw [if_neg c3] at H
  have c3b0 : decide (a1 ≤ 0) = false := decide_eq_false c3
  clear c3
  by_cases c4 : a1 ≤ 256
  ·rw [if_pos c4] at H
   have c4b0 : decide (a1 ≤ 256) = true := decide_eq_true c4
   clear c4
   replace H := Option.bind_eq_some_iff.mp H
   obtain ⟨⟨t180, t181, t182⟩, A50, H⟩ := H
   replace H : (if a1 = 0 then (none) else (some (Int.tmod t180 a1, t181, t182))) = some (r1, r2, r3) := H
   have A5 := qab.mk A50
   clear A50
   by_cases c6 : a1 = 0
   ·rw [if_pos c6] at H
    exact absurd H (by simp)
   ·rw [if_neg c6] at H
    have c6b0 : (a1 == 0) = false := beq_eq_false_iff_ne.mpr c6
    have c6b1 : (a1 != 0) = true := bne_iff_ne.mpr c6
    simp only [Option.some.injEq, Prod.mk.injEq] at H
    obtain ⟨rfl, rfl, rfl⟩ := H
    go_enter Try.func96, Try.ntmps96
    go_wp2_with (first | ((with_reducible refine qaq (f := 139) rfl ?_); refine qbe (some 14) rfl rfl Try.func139 (by kernel_rfl) rfl #[.pointer (some ⟨g, 0, none⟩)] rfl (by (try simp only [List.map_toArray, List.map_cons, List.map_nil]); first | done | rfl | (simp only [List.length_drop, List.length_take]; rfl)) ?_; (with_reducible refine (spec_l01Byte.calls g s0_0 s0_1 s0_2 t180 t181 t182 w0 _ ?side1 ?side2 A5.out).mono ?_); (case side1 => repeat (first | (with_reducible first | exact HI0.out | apply IsS137.alloc | apply IsS137.drewN | apply IsS137.drew | apply IsS137.set_1 | apply IsS137.set_2) | exact HI0.out)); (case side2 => repeat (first | (with_reducible first | exact HB.out | apply qad | apply qaa | apply qac | refine qae ?_ (IsS137.ge HI0.out)) | exact HB.out)); rintro e w7 ⟨rfl, hi, hb, hk⟩; refine ⟨_, rfl, ?_⟩; have n0_ := qab.mk (KeepBut.trans (by repeat (first | (with_reducible first | exact HK.out | apply KeepBut.set_ | apply qaw | apply qba | apply qax) | exact HK.out)) hk (.inl rfl)); have n1_ := qab.mk (hb); have n2_ := qab.mk (hi); clear HK; clear HB; clear HI0; have HK := n0_; have HB := n1_; have HI0 := n2_; clear n0_ n1_ n2_; (try clear hb); (try clear hb2); (try clear hk); (try clear hi)))
    go_ret
    exact ⟨by first | rfl | (simp [errW_none, errW_some] <;> rfl) | (simp [*, errW_none, errW_some] <;> rfl), by repeat (first | (with_reducible first | exact HI0.out | apply IsS137.alloc | apply IsS137.drewN | apply IsS137.drew | apply IsS137.set_1 | apply IsS137.set_2) | exact HI0.out), by repeat (first | (with_reducible first | exact HB.out | apply qad | apply qaa | apply qac | refine qae ?_ (IsS137.ge HI0.out)) | exact HB.out), by repeat (first | (with_reducible first | exact HK.out | apply KeepBut.set_ | apply qaw | apply qba | apply qax) | exact HK.out)⟩
  ·rw [if_neg c4] at H
   have c4b0 : decide (a1 ≤ 256) = false := decide_eq_false c4
   clear c4
   replace H := Option.bind_eq_some_iff.mp H
   obtain ⟨⟨t183, t184, t185⟩, A80, H⟩ := H
   replace H : ((spec_l01Byte.f s0_0 t184 t185).bind fun bt186 => ((spec_l01Byte.f s0_0 bt186.2.1 bt186.2.2).bind fun bt189 => ((spec_l01Byte.f s0_0 bt189.2.1 bt189.2.2).bind fun bt192 => (if a1 = 0 then (none) else (some (Int.tmod (wrap64 ((wrap64 ((wrap64 ((wrap64 (t183 * 16777216)) + (wrap64 (bt186.1 * 65536)))) + (wrap64 (bt189.1 * 256)))) + bt192.1)) a1, bt192.2.1, bt192.2.2)))))) = some (r1, r2, r3) := H
   have A8 := qab.mk A80
   clear A80
   replace H := Option.bind_eq_some_iff.mp H
   obtain ⟨⟨t186, t187, t188⟩, A90, H⟩ := H
   replace H : ((spec_l01Byte.f s0_0 t187 t188).bind fun bt189 => ((spec_l01Byte.f s0_0 bt189.2.1 bt189.2.2).bind fun bt192 => (if a1 = 0 then (none) else (some (Int.tmod (wrap64 ((wrap64 ((wrap64 ((wrap64 (t183 * 16777216)) + (wrap64 (t186 * 65536)))) + (wrap64 (bt189.1 * 256)))) + bt192.1)) a1, bt192.2.1, bt192.2.2))))) = some (r1, r2, r3) := H
   have A9 := qab.mk A90
   clear A90
   replace H := Option.bind_eq_some_iff.mp H
   obtain ⟨⟨t189, t190, t191⟩, A100, H⟩ := H
   replace H : ((spec_l01Byte.f s0_0 t190 t191).bind fun bt192 => (if a1 = 0 then (none) else (some (Int.tmod (wrap64 ((wrap64 ((wrap64 ((wrap64 (t183 * 16777216)) + (wrap64 (t186 * 65536)))) + (wrap64 (t189 * 256)))) + bt192.1)) a1, bt192.2.1, bt192.2.2)))) = some (r1, r2, r3) := H
   have A10 := qab.mk A100
   clear A100
   replace H := Option.bind_eq_some_iff.mp H
   obtain ⟨⟨t192, t193, t194⟩, A110, H⟩ := H
   replace H : (if a1 = 0 then (none) else (some (Int.tmod (wrap64 ((wrap64 ((wrap64 ((wrap64 (t183 * 16777216)) + (wrap64 (t186 * 65536)))) + (wrap64 (t189 * 256)))) + t192)) a1, t193, t194))) = some (r1, r2, r3) := H
   have A11 := qab.mk A110
   clear A110
   by_cases c12 : a1 = 0
   ·rw [if_pos c12] at H
    exact absurd H (by simp)
   ·rw [if_neg c12] at H
    have c12b0 : (a1 == 0) = false := beq_eq_false_iff_ne.mpr c12
    have c12b1 : (a1 != 0) = true := bne_iff_ne.mpr c12
    simp only [Option.some.injEq, Prod.mk.injEq] at H
    obtain ⟨rfl, rfl, rfl⟩ := H
    go_enter Try.func96, Try.ntmps96
    go_wp2_with (first | ((with_reducible refine qaq (f := 139) rfl ?_); refine qbe (some 18) rfl rfl Try.func139 (by kernel_rfl) rfl #[.pointer (some ⟨g, 0, none⟩)] rfl (by (try simp only [List.map_toArray, List.map_cons, List.map_nil]); first | done | rfl | (simp only [List.length_drop, List.length_take]; rfl)) ?_; (with_reducible refine (spec_l01Byte.calls g s0_0 s0_1 s0_2 t183 t184 t185 w0 _ ?side1 ?side2 A8.out).mono ?_); (case side1 => repeat (first | (with_reducible first | exact HI0.out | apply IsS137.alloc | apply IsS137.drewN | apply IsS137.drew | apply IsS137.set_1 | apply IsS137.set_2) | exact HI0.out)); (case side2 => repeat (first | (with_reducible first | exact HB.out | apply qad | apply qaa | apply qac | refine qae ?_ (IsS137.ge HI0.out)) | exact HB.out)); rintro e w13 ⟨rfl, hi, hb, hk⟩; refine ⟨_, rfl, ?_⟩; have n0_ := qab.mk (KeepBut.trans (by repeat (first | (with_reducible first | exact HK.out | apply KeepBut.set_ | apply qaw | apply qba | apply qax) | exact HK.out)) hk (.inl rfl)); have n1_ := qab.mk (hb); have n2_ := qab.mk (hi); clear HK; clear HB; clear HI0; have HK := n0_; have HB := n1_; have HI0 := n2_; clear n0_ n1_ n2_; (try clear hb); (try clear hb2); (try clear hk); (try clear hi)) | ((with_reducible refine qaq (f := 139) rfl ?_); refine qbe (some 20) rfl rfl Try.func139 (by kernel_rfl) rfl #[.pointer (some ⟨g, 0, none⟩)] rfl (by (try simp only [List.map_toArray, List.map_cons, List.map_nil]); first | done | rfl | (simp only [List.length_drop, List.length_take]; rfl)) ?_; (with_reducible refine (spec_l01Byte.calls g s0_0 t184 t185 t186 t187 t188 w0 _ ?side1 ?side2 A9.out).mono ?_); (case side1 => repeat (first | (with_reducible first | exact HI0.out | apply IsS137.alloc | apply IsS137.drewN | apply IsS137.drew | apply IsS137.set_1 | apply IsS137.set_2) | exact HI0.out)); (case side2 => repeat (first | (with_reducible first | exact HB.out | apply qad | apply qaa | apply qac | refine qae ?_ (IsS137.ge HI0.out)) | exact HB.out)); rintro e w14 ⟨rfl, hi, hb, hk⟩; refine ⟨_, rfl, ?_⟩; have n0_ := qab.mk (KeepBut.trans (by repeat (first | (with_reducible first | exact HK.out | apply KeepBut.set_ | apply qaw | apply qba | apply qax) | exact HK.out)) hk (.inl rfl)); have n1_ := qab.mk (hb); have n2_ := qab.mk (hi); clear HK; clear HB; clear HI0; have HK := n0_; have HB := n1_; have HI0 := n2_; clear n0_ n1_ n2_; (try clear hb); (try clear hb2); (try clear hk); (try clear hi)) | ((with_reducible refine qaq (f := 139) rfl ?_); refine qbe (some 22) rfl rfl Try.func139 (by kernel_rfl) rfl #[.pointer (some ⟨g, 0, none⟩)] rfl (by (try simp only [List.map_toArray, List.map_cons, List.map_nil]); first | done | rfl | (simp only [List.length_drop, List.length_take]; rfl)) ?_; (with_reducible refine (spec_l01Byte.calls g s0_0 t187 t188 t189 t190 t191 w0 _ ?side1 ?side2 A10.out).mono ?_); (case side1 => repeat (first | (with_reducible first | exact HI0.out | apply IsS137.alloc | apply IsS137.drewN | apply IsS137.drew | apply IsS137.set_1 | apply IsS137.set_2) | exact HI0.out)); (case side2 => repeat (first | (with_reducible first | exact HB.out | apply qad | apply qaa | apply qac | refine qae ?_ (IsS137.ge HI0.out)) | exact HB.out)); rintro e w15 ⟨rfl, hi, hb, hk⟩; refine ⟨_, rfl, ?_⟩; have n0_ := qab.mk (KeepBut.trans (by repeat (first | (with_reducible first | exact HK.out | apply KeepBut.set_ | apply qaw | apply qba | apply qax) | exact HK.out)) hk (.inl rfl)); have n1_ := qab.mk (hb); have n2_ := qab.mk (hi); clear HK; clear HB; clear HI0; have HK := n0_; have HB := n1_; have HI0 := n2_; clear n0_ n1_ n2_; (try clear hb); (try clear hb2); (try clear hk); (try clear hi)) | ((with_reducible refine qaq (f := 139) rfl ?_); refine qbe (some 24) rfl rfl Try.func139 (by kernel_rfl) rfl #[.pointer (some ⟨g, 0, none⟩)] rfl (by (try simp only [List.map_toArray, List.map_cons, List.map_nil]); first | done | rfl | (simp only [List.length_drop, List.length_take]; rfl)) ?_; (with_reducible refine (spec_l01Byte.calls g s0_0 t190 t191 t192 t193 t194 w0 _ ?side1 ?side2 A11.out).mono ?_); (case side1 => repeat (first | (with_reducible first | exact HI0.out | apply IsS137.alloc | apply IsS137.drewN | apply IsS137.drew | apply IsS137.set_1 | apply IsS137.set_2) | exact HI0.out)); (case side2 => repeat (first | (with_reducible first | exact HB.out | apply qad | apply qaa | apply qac | refine qae ?_ (IsS137.ge HI0.out)) | exact HB.out)); rintro e w16 ⟨rfl, hi, hb, hk⟩; refine ⟨_, rfl, ?_⟩; have n0_ := qab.mk (KeepBut.trans (by repeat (first | (with_reducible first | exact HK.out | apply KeepBut.set_ | apply qaw | apply qba | apply qax) | exact HK.out)) hk (.inl rfl)); have n1_ := qab.mk (hb); have n2_ := qab.mk (hi); clear HK; clear HB; clear HI0; have HK := n0_; have HB := n1_; have HI0 := n2_; clear n0_ n1_ n2_; (try clear hb); (try clear hb2); (try clear hk); (try clear hi)))
    go_ret
    exact ⟨by first | rfl | (simp [errW_none, errW_some] <;> rfl) | (simp [*, errW_none, errW_some] <;> rfl), by repeat (first | (with_reducible first | exact HI0.out | apply IsS137.alloc | apply IsS137.drewN | apply IsS137.drew | apply IsS137.set_1 | apply IsS137.set_2) | exact HI0.out), by repeat (first | (with_reducible first | exact HB.out | apply qad | apply qaa | apply qac | refine qae ?_ (IsS137.ge HI0.out)) | exact HB.out), by repeat (first | (with_reducible first | exact HK.out | apply KeepBut.set_ | apply qaw | apply qba | apply qax) | exact HK.out)⟩


/-! ### spec_l01PickInt: function 138 -/
def spec_l01PickInt.f (s0_0 : List Int) (s0_1 : Int) (s0_2 : Int) (l1 : List Int) : Option (Int × Int × Int) := (spec_l01Below.f s0_0 s0_1 s0_2 (l1.length : Int)).bind fun bt195 => (if 0 ≤ bt195.1 then (if bt195.1 < (l1.length : Int) then (some (rd l1 bt195.1, bt195.2.1, bt195.2.2)) else (none)) else (none))
set_option maxHeartbeats 8000000 in
set_option maxRecDepth 100000 in
theorem spec_l01PickInt.calls (g : Nat) (s0_0 : List Int) (s0_1 : Int) (s0_2 : Int) (A1 : Option Addr) (c1 : Nat) (l1 : List Int) (r1 : Int) (r2 : Int) (r3 : Int) (w0 w : World) (hI : IsS137 w0 w g s0_0 s0_1 s0_2) (hB : Below w0.heap.size w0 w) (hr1 : Kd.C (Kd.int .i64) w A1 l1.length l1) (hc1 : l1.length ≤ c1) (hf1 : ∀ ad, A1 = some ad → 0 < l1.length → ad.block ≠ g) (h : spec_l01PickInt.f s0_0 s0_1 s0_2 l1 = some (r1, r2, r3)) :
  Calls Try.prog 138 #[.pointer (some ⟨g, 0, none⟩), .slice A1 l1.length c1] w fun e w' => e = .returned (.int .i64 r1) ∧ IsS137 w0 w' g s0_0 r2 r3 ∧ Below w0.heap.size w0 w' ∧ KeepBut w w' g none := by
 have HR1 := qab.mk hr1
 have HC1 := qab.mk hc1
 clear hr1 hc1
 have HI0 := qab.mk hI
 have HK := qab.mk (KeepBut.refl w g none)
 have HL := qab.mk hB.size
 clear hI
 have HW0 := qab.mk hB.size
 have HB := qab.mk hB
 clear hB
 have H : ((spec_l01Below.f s0_0 s0_1 s0_2 (l1.length : Int)).bind fun bt195 => (if 0 ≤ bt195.1 then (if bt195.1 < (l1.length : Int) then (some (rd l1 bt195.1, bt195.2.1, bt195.2.2)) else (none)) else (none))) = some (r1, r2, r3) := h
 clear h
 replace H := Option.bind_eq_some_iff.mp H
 obtain ⟨⟨t195, t196, t197⟩, A30, H⟩ := H
 replace H : (if 0 ≤ t195 then (if t195 < (l1.length : Int) then (some (rd l1 t195, t196, t197)) else (none)) else (none)) = some (r1, r2, r3) := H
 have A3 := qab.mk A30
 clear A30
 by_cases c4 : 0 ≤ t195
 ·rw [if_pos c4] at H
  have c4b0 : decide (0 ≤ t195) = true := decide_eq_true c4
  clear c4
  by_cases c5 : t195 < (l1.length : Int)
  ·rw [if_pos c5] at H
   have c5b0 : decide (t195 < (l1.length : Int)) = true := decide_eq_true c5
   clear c5
   simp only [Option.some.injEq, Prod.mk.injEq] at H
   obtain ⟨rfl, rfl, rfl⟩ := H
   go_enter Try.func138, Try.ntmps138
   go_wp2_with (first | ((with_reducible refine qaq (f := 96) rfl ?_); refine qbe (some 9) rfl rfl Try.func96 (by kernel_rfl) rfl #[.pointer (some ⟨g, 0, none⟩), .int .i64 (l1.length : Int)] rfl (by (try simp only [List.map_toArray, List.map_cons, List.map_nil]); first | done | rfl | (simp only [List.length_drop, List.length_take]; rfl)) ?_; (with_reducible refine (spec_l01Below.calls g s0_0 s0_1 s0_2 (l1.length : Int) t195 t196 t197 w0 _ ?side1 ?side2 A3.out).mono ?_); (case side1 => repeat (first | (with_reducible first | exact HI0.out | apply IsS137.alloc | apply IsS137.drewN | apply IsS137.drew | apply IsS137.set_1 | apply IsS137.set_2) | exact HI0.out)); (case side2 => repeat (first | (with_reducible first | exact HB.out | apply qad | apply qaa | apply qac | refine qae ?_ (IsS137.ge HI0.out)) | exact HB.out)); rintro e w6 ⟨rfl, hi, hb, hk⟩; refine ⟨_, rfl, ?_⟩; have n0_ := qab.mk (KeepBut.trans (by repeat (first | (with_reducible first | exact HK.out | apply KeepBut.set_ | apply qaw | apply qba | apply qax) | exact HK.out)) hk (.inl rfl)); have n1_ := qab.mk (hb); have n2_ := qab.mk (hi); clear HK; clear HB; clear HI0; have HK := n0_; have HB := n1_; have HI0 := n2_; clear n0_ n1_ n2_; (try clear hb); (try clear hb2); (try clear hk); (try clear hi); have p198 : 0 ≤ (t195 : Int) := of_decide_eq_true (by first | (with_reducible assumption) | assumption); have q198 : t195 < (l1.length : Int) := of_decide_eq_true (by first | (with_reducible assumption) | assumption); obtain ⟨ad198, e198, hx198_0⟩ := Kd.qcc HR1.out t195 p198 q198; cases e198; replace hx198_0 := qdg HK.out hx198_0 (by first | (rw [qcp]; exact hf1 _ rfl (by omega)) | exact hf1 _ rfl (by omega) | exact hf1 ad198 rfl (by omega)); replace p198 := eq_true p198; replace q198 := eq_true q198))
   go_ret
   exact ⟨by first | rfl | (simp [errW_none, errW_some] <;> rfl) | (simp [*, errW_none, errW_some] <;> rfl), by repeat (first | (with_reducible first | exact HI0.out | apply IsS137.alloc | apply IsS137.drewN | apply IsS137.drew | apply IsS137.set_1 | apply IsS137.set_2) | exact HI0.out), by repeat (first | (with_reducible first | exact HB.out | apply qad | apply qaa | apply qac | refine qae ?_ (IsS137.ge HI0.out)) | exact HB.out), by repeat (first | (with_reducible first | exact HK.out | apply KeepBut.set_ | apply qaw | apply qba | apply qax) | exact HK.out)⟩
  ·rw [if_neg c5] at H
   exact absurd H (by simp)
 ·rw [if_neg c4] at H
  exact absurd H (by simp)


/-! ### spec_l02Grid: function 94 -/
def spec_l02Grid.f (s0_0 : List Int) (s0_1 : Int) (s0_2 : Int) : Option (Int × Int × Int × Int) := (spec_l01PickInt.f s0_0 s0_1 s0_2 (([1, 2, 2, 3, 3, 4] : List Int))).bind fun bt203 => ((spec_l01PickInt.f s0_0 bt203.2.1 bt203.2.2 (([1, 2, 2, 3, 3, 4] : List Int))).bind fun bt209 => (some (bt203.1, bt209.1, bt209.2.1, bt209.2.2)))
set_option maxHeartbeats 8000000 in
set_option maxRecDepth 100000 in
theorem spec_l02Grid.calls (g : Nat) (s0_0 : List Int) (s0_1 : Int) (s0_2 : Int) (r1 : Int) (r2 : Int) (r3 : Int) (r4 : Int) (w0 w : World) (hI : IsS137 w0 w g s0_0 s0_1 s0_2) (hB : Below w0.heap.size w0 w) (h : spec_l02Grid.f s0_0 s0_1 s0_2 = some (r1, r2, r3, r4)) :
  Calls Try.prog 94 #[.pointer (some ⟨g, 0, none⟩)] w fun e w' => e = .returned (.agg #[.int .i64 r1, .int .i64 r2]) ∧ IsS137 w0 w' g s0_0 r3 r4 ∧ Below w0.heap.size w0 w' ∧ KeepBut w w' g none := by
 have hu32 := Try.underlying32
 have HI0 := qab.mk hI
 have HK := qab.mk (KeepBut.refl w g none)
 have HL := qab.mk hB.size
 clear hI
 have HW0 := qab.mk hB.size
 have HB := qab.mk hB
 clear hB
 have H : ((spec_l01PickInt.f s0_0 s0_1 s0_2 (([1, 2, 2, 3, 3, 4] : List Int))).bind fun bt203 => ((spec_l01PickInt.f s0_0 bt203.2.1 bt203.2.2 (([1, 2, 2, 3, 3, 4] : List Int))).bind fun bt209 => (some (bt203.1, bt209.1, bt209.2.1, bt209.2.2)))) = some (r1, r2, r3, r4) := h
 clear h
 obtain ⟨y200, hy200⟩ : ∃ y_ : List Int, y_ = (([1, 2, 2, 3, 3, 4] : List Int)) := ⟨_, rfl⟩
 replace H : ((spec_l01PickInt.f s0_0 s0_1 s0_2 y200).bind fun bt203 => ((spec_l01PickInt.f s0_0 bt203.2.1 bt203.2.2 (([1, 2, 2, 3, 3, 4] : List Int))).bind fun bt209 => (some (bt203.1, bt209.1, bt209.2.1, bt209.2.2)))) = some (r1, r2, r3, r4) := by first | (rw [hy200]; with_reducible exact H) | (have H2_ := (Option.bind_some _ _).symm.trans H; rw [hy200]; with_reducible exact H2_) | (have H2_ := (Option.bind_some _ _).symm.trans H; with_reducible exact H2_) | with_reducible exact H | (rw [hy200]; exact H) | exact H
 have Ny200 := qab.mk hy200
 clear hy200
 replace H := Option.bind_eq_some_iff.mp H
 obtain ⟨⟨t203, t204, t205⟩, A20, H⟩ := H
 replace H : ((spec_l01PickInt.f s0_0 t204 t205 (([1, 2, 2, 3, 3, 4] : List Int))).bind fun bt209 => (some (t203, bt209.1, bt209.2.1, bt209.2.2))) = some (r1, r2, r3, r4) := H
 have A2 := qab.mk A20
 clear A20
 obtain ⟨y206, hy206⟩ : ∃ y_ : List Int, y_ = (([1, 2, 2, 3, 3, 4] : List Int)) := ⟨_, rfl⟩
 replace H : ((spec_l01PickInt.f s0_0 t204 t205 y206).bind fun bt209 => (some (t203, bt209.1, bt209.2.1, bt209.2.2))) = some (r1, r2, r3, r4) := by first | (rw [hy206]; with_reducible exact H) | (have H2_ := (Option.bind_some _ _).symm.trans H; rw [hy206]; with_reducible exact H2_) | (have H2_ := (Option.bind_some _ _).symm.trans H; with_reducible exact H2_) | with_reducible exact H | (rw [hy206]; exact H) | exact H
 have Ny206 := qab.mk hy206
 clear hy206
 replace H := Option.bind_eq_some_iff.mp H
 obtain ⟨⟨t209, t210, t211⟩, A30, H⟩ := H
 replace H : (some (t203, t209, t210, t211)) = some (r1, r2, r3, r4) := H
 have A3 := qab.mk A30
 clear A30
 simp only [Option.some.injEq, Prod.mk.injEq] at H
 obtain ⟨rfl, rfl, rfl, rfl⟩ := H
 go_enter Try.func94, Try.ntmps94
 go_wp2_with (first | ((with_reducible refine qas (N := 2) rfl ?_); refine qar ?hg (N := 2) ?hd (cs := #[.int .i64 0, .int .i64 0]) (t := 32) ?hr ?_; (case hd => rfl); (case hg => rfl); (case hr => first | (go_simp; done) | (go_simp; rfl)); intro gb199 hg w4 hbox hb; have n0_ := qab.mk (IsS137.below (by repeat (first | (with_reducible first | exact HI0.out | apply IsS137.alloc | apply IsS137.drewN | apply IsS137.drew | apply IsS137.set_1 | apply IsS137.set_2) | exact HI0.out)) hb); have n1_ := qab.mk (KeepBut.trans (by repeat (first | (with_reducible first | exact HK.out | apply KeepBut.set_ | apply qaw | apply qba | apply qax) | exact HK.out)) (KeepBut.qci hb g none) (.inl rfl)); have n2_ := qab.mk (qak (by repeat (first | (with_reducible first | exact HB.out | apply qad | apply qaa | apply qac | refine qae ?_ (IsS137.ge HI0.out)) | exact HB.out)) hb); have n3_ := qab.mk (hbox); have n4_ := qab.mk ((by rw [hg]; exact (qbu (w := w) (g := g) (row := none) (by repeat (first | (with_reducible first | exact HK.out | apply KeepBut.set_ | apply qaw | apply qba | apply qax) | exact HK.out))) : w.heap.size ≤ gb199)); have n5_ := qab.mk ((Nat.le_trans HW0.out (by rw [hg]; exact (qbu (w := w) (g := g) (row := none) (by repeat (first | (with_reducible first | exact HK.out | apply KeepBut.set_ | apply qaw | apply qba | apply qax) | exact HK.out))) : w.heap.size ≤ gb199) : w0.heap.size ≤ gb199)); have n6_ := qab.mk ((by rw [hg]; exact Nat.ne_of_lt (IsS137.lt (show IsS137 w0 _ g s0_0 s0_1 s0_2 from by repeat (first | (with_reducible first | exact HI0.out | apply IsS137.alloc | apply IsS137.drewN | apply IsS137.drew | apply IsS137.set_1 | apply IsS137.set_2) | exact HI0.out))) : g ≠ gb199)); have n7_ := qab.mk ((by rw [hg]; exact Nat.ne_of_gt (IsS137.lt (show IsS137 w0 _ g s0_0 s0_1 s0_2 from by repeat (first | (with_reducible first | exact HI0.out | apply IsS137.alloc | apply IsS137.drewN | apply IsS137.drew | apply IsS137.set_1 | apply IsS137.set_2) | exact HI0.out))) : gb199 ≠ g)); clear HI0; clear HK; clear HB; have HI0 := n0_; have HK := n1_; have HB := n2_; have BK199 := n3_; have GW199 := n4_; have GE199 := n5_; have NB0_199 := n6_; have NB199_0 := n7_; clear n0_ n1_ n2_ n3_ n4_ n5_ n6_ n7_; clear hb hbox hg) | ((with_reducible refine qas (N := 4) rfl ?_); refine Kd.R_lit (Kd.int .i64) _ 3 ?hg (N := 4) ?hd (xs := ([1, 2, 2, 3, 3, 4] : List Int)) (inner := [.int .i64 1, .int .i64 2, .int .i64 2, .int .i64 3, .int .i64 3, .int .i64 4]) (ok := fun _ => True) (okp := fun _ => True) ?hr ?hp (fun _ hk => hk) trivial (Below.refl _ _) (Nat.le_refl _) (by simp) ?_; (case hd => rfl); (case hg => rfl); (case hr => first | (go_simp; done) | (go_simp; rfl)); (case hp => exact (Reps.one (show Kd.M (Kd.int .i64) _ _ _ 1 [.int .i64 1] from rfl) (Reps.one (show Kd.M (Kd.int .i64) _ _ _ 2 [.int .i64 2] from rfl) (Reps.one (show Kd.M (Kd.int .i64) _ _ _ 2 [.int .i64 2] from rfl) (Reps.one (show Kd.M (Kd.int .i64) _ _ _ 3 [.int .i64 3] from rfl) (Reps.one (show Kd.M (Kd.int .i64) _ _ _ 3 [.int .i64 3] from rfl) (Reps.one (show Kd.M (Kd.int .i64) _ _ _ 4 [.int .i64 4] from rfl) (Reps.none _ _)))))))); intro v201 w5 ho6 hb hg_ hnew_; clear hg_ hnew_; (first | rw [← Ny200.out] at ho6 | (simp only [Int.reduceToNat] at ho6; rw [← Ny200.out] at ho6)); have n0_ := qab.mk (Kd.qbm ho6 (qbu (w := w) (g := g) (row := none) (by repeat (first | (with_reducible first | exact HK.out | apply KeepBut.set_ | apply qaw | apply qba | apply qax | refine qbk ?_ GW199.out _) | exact HK.out)))); have n1_ := qab.mk (IsS137.below (by repeat (first | (with_reducible first | exact HI0.out | apply IsS137.alloc | apply IsS137.drewN | apply IsS137.drew | apply IsS137.set_1 | apply IsS137.set_2 | refine IsS137.far ?_ NB0_199.out _) | exact HI0.out)) hb); have n2_ := qab.mk (qam (g := gb199) (o := .cells #[.int .i64 0, .int .i64 0] 32 (0, 0)) (by (with_reducible repeat (first | refine qag ?_ _ | refine qaj ?_ | refine qaf ?_ _)); exact BK199.out) hb); have n3_ := qab.mk (KeepBut.trans (by repeat (first | (with_reducible first | exact HK.out | apply KeepBut.set_ | apply qaw | apply qba | apply qax | refine qbk ?_ GW199.out _) | exact HK.out)) (KeepBut.qci hb g none) (.inl rfl)); have n4_ := qab.mk (qak (by repeat (first | (with_reducible first | exact HB.out | apply qad | apply qaa | apply qac | refine qae ?_ (IsS137.ge HI0.out) | refine qae ?_ GE199.out) | exact HB.out)) hb); clear HI0; clear BK199; clear HK; clear HB; have HO202 := n0_; have HI0 := n1_; have BK199 := n2_; have HK := n3_; have HB := n4_; clear n0_ n1_ n2_ n3_ n4_; clear hb ho6; obtain ⟨Ao7, co7, eo7⟩ := Kd.qbj HO202.out; subst eo7) | ((with_reducible refine qaq (f := 138) rfl ?_); refine qbe (some 5) rfl rfl Try.func138 (by kernel_rfl) rfl #[.pointer (some ⟨g, 0, none⟩), .slice Ao7 y200.length co7] rfl (by (try simp only [List.map_toArray, List.map_cons, List.map_nil]); first | done | rfl | (simp only [List.length_drop, List.length_take]; rfl)) ?_; (with_reducible refine (spec_l01PickInt.calls g s0_0 s0_1 s0_2 _ _ y200 t203 t204 t205 w0 _ ?side1 ?side2 ?side3 ?side4 ?side5 A2.out).mono ?_); (case side1 => repeat (first | (with_reducible first | exact HI0.out | apply IsS137.alloc | apply IsS137.drewN | apply IsS137.drew | apply IsS137.set_1 | apply IsS137.set_2 | refine IsS137.far ?_ NB0_199.out _) | exact HI0.out)); (case side2 => repeat (first | (with_reducible first | exact HB.out | apply qad | apply qaa | apply qac | refine qae ?_ (IsS137.ge HI0.out) | refine qae ?_ GE199.out) | exact HB.out)); (case side3 => repeat (first | exact (Kd.qau HO202.out).2.2 | (with_reducible first | refine Kd.qaz ?_ _ | refine Kd.qay ?_ _ | refine Kd.qbd ?_))); (case side4 => exact (Kd.qau HO202.out).2.1); (case side5 => exact qcw (IsS137.qcv HI0.out HO202.out (by decide))); rintro e w8 ⟨rfl, hi, hb, hk⟩; refine ⟨_, rfl, ?_⟩; have n0_ := qab.mk (KeepBut.blk hk (g' := gb199) (o := .cells #[.int .i64 0, .int .i64 0] 32 (0, 0)) (by (with_reducible repeat (first | refine qag ?_ _ | refine qaj ?_ | refine qaf ?_ _)); exact BK199.out) NB199_0.out (by simp)); have n1_ := qab.mk (Kd.qbb (Kd.qcr (IsS137.apart (show IsS137 w0 _ g s0_0 s0_1 s0_2 from by repeat (first | (with_reducible first | exact HI0.out | apply IsS137.alloc | apply IsS137.drewN | apply IsS137.drew | apply IsS137.set_1 | apply IsS137.set_2 | refine IsS137.far ?_ NB0_199.out _) | exact HI0.out)) (by (with_reducible repeat (first | apply Kd.qao | apply Kd.qan | apply Kd.qap)); exact HO202.out) (by decide)) hk (fun _ h => h.2)) (fun _ h => h.1)); have n2_ := qab.mk (KeepBut.trans (by repeat (first | (with_reducible first | exact HK.out | apply KeepBut.set_ | apply qaw | apply qba | apply qax | refine qbk ?_ GW199.out _) | exact HK.out)) hk (.inl rfl)); have n3_ := qab.mk (hb); have n4_ := qab.mk (hi); clear BK199; clear HO202; clear HK; clear HB; clear HI0; have BK199 := n0_; have HO202 := n1_; have HK := n2_; have HB := n3_; have HI0 := n4_; clear n0_ n1_ n2_ n3_ n4_; (try clear hb); (try clear hb2); (try clear hk); (try clear hi)) | ((with_reducible refine qas (N := 7) rfl ?_); refine Kd.R_lit (Kd.int .i64) _ 3 ?hg (N := 7) ?hd (xs := ([1, 2, 2, 3, 3, 4] : List Int)) (inner := [.int .i64 1, .int .i64 2, .int .i64 2, .int .i64 3, .int .i64 3, .int .i64 4]) (ok := fun _ => True) (okp := fun _ => True) ?hr ?hp (fun _ hk => hk) trivial (Below.refl _ _) (Nat.le_refl _) (by simp) ?_; (case hd => rfl); (case hg => rfl); (case hr => first | (go_simp; done) | (go_simp; rfl)); (case hp => exact (Reps.one (show Kd.M (Kd.int .i64) _ _ _ 1 [.int .i64 1] from rfl) (Reps.one (show Kd.M (Kd.int .i64) _ _ _ 2 [.int .i64 2] from rfl) (Reps.one (show Kd.M (Kd.int .i64) _ _ _ 2 [.int .i64 2] from rfl) (Reps.one (show Kd.M (Kd.int .i64) _ _ _ 3 [.int .i64 3] from rfl) (Reps.one (show Kd.M (Kd.int .i64) _ _ _ 3 [.int .i64 3] from rfl) (Reps.one (show Kd.M (Kd.int .i64) _ _ _ 4 [.int .i64 4] from rfl) (Reps.none _ _)))))))); intro v207 w9 ho10 hb hg_ hnew_; clear hg_ hnew_; (first | rw [← Ny206.out] at ho10 | (simp only [Int.reduceToNat] at ho10; rw [← Ny206.out] at ho10)); have n0_ := qab.mk (Kd.qbc (by (with_reducible repeat (first | apply Kd.qao | apply Kd.qan | apply Kd.qap)); exact HO202.out) (Kd.qbl ho10) hb); have n1_ := qab.mk (Kd.qbm (Kd.qbn ho10 (Kd.R_lt (by (with_reducible repeat (first | apply Kd.qao | apply Kd.qan | apply Kd.qap)); exact HO202.out))) (qbu (w := w) (g := g) (row := none) (by repeat (first | (with_reducible first | exact HK.out | apply KeepBut.set_ | apply qaw | apply qba | apply qax | refine qbk ?_ GW199.out _) | exact HK.out)))); have n2_ := qab.mk (IsS137.below (by repeat (first | (with_reducible first | exact HI0.out | apply IsS137.alloc | apply IsS137.drewN | apply IsS137.drew | apply IsS137.set_1 | apply IsS137.set_2 | refine IsS137.far ?_ NB0_199.out _) | exact HI0.out)) hb); have n3_ := qab.mk (qam (g := gb199) (o := .cells #[.int .i64 0, .int .i64 0] 32 (0, 0)) (by (with_reducible repeat (first | refine qag ?_ _ | refine qaj ?_ | refine qaf ?_ _)); exact BK199.out) hb); have n4_ := qab.mk (KeepBut.trans (by repeat (first | (with_reducible first | exact HK.out | apply KeepBut.set_ | apply qaw | apply qba | apply qax | refine qbk ?_ GW199.out _) | exact HK.out)) (KeepBut.qci hb g none) (.inl rfl)); have n5_ := qab.mk (qak (by repeat (first | (with_reducible first | exact HB.out | apply qad | apply qaa | apply qac | refine qae ?_ (IsS137.ge HI0.out) | refine qae ?_ GE199.out) | exact HB.out)) hb); clear HO202; clear HI0; clear BK199; clear HK; clear HB; have HO202 := n0_; have HO208 := n1_; have HI0 := n2_; have BK199 := n3_; have HK := n4_; have HB := n5_; clear n0_ n1_ n2_ n3_ n4_ n5_; clear hb ho10; obtain ⟨Ao11, co11, eo11⟩ := Kd.qbj HO208.out; subst eo11) | ((with_reducible refine qaq (f := 138) rfl ?_); refine qbe (some 8) rfl rfl Try.func138 (by kernel_rfl) rfl #[.pointer (some ⟨g, 0, none⟩), .slice Ao11 y206.length co11] rfl (by (try simp only [List.map_toArray, List.map_cons, List.map_nil]); first | done | rfl | (simp only [List.length_drop, List.length_take]; rfl)) ?_; (with_reducible refine (spec_l01PickInt.calls g s0_0 t204 t205 _ _ y206 t209 t210 t211 w0 _ ?side1 ?side2 ?side3 ?side4 ?side5 A3.out).mono ?_); (case side1 => repeat (first | (with_reducible first | exact HI0.out | apply IsS137.alloc | apply IsS137.drewN | apply IsS137.drew | apply IsS137.set_1 | apply IsS137.set_2 | refine IsS137.far ?_ NB0_199.out _) | exact HI0.out)); (case side2 => repeat (first | (with_reducible first | exact HB.out | apply qad | apply qaa | apply qac | refine qae ?_ (IsS137.ge HI0.out) | refine qae ?_ GE199.out) | exact HB.out)); (case side3 => repeat (first | exact (Kd.qau HO208.out).2.2 | (with_reducible first | refine Kd.qaz ?_ _ | refine Kd.qay ?_ _ | refine Kd.qbd ?_))); (case side4 => exact (Kd.qau HO208.out).2.1); (case side5 => exact qcw (IsS137.qcv HI0.out HO208.out (by decide))); rintro e w12 ⟨rfl, hi, hb, hk⟩; refine ⟨_, rfl, ?_⟩; have n0_ := qab.mk (KeepBut.blk hk (g' := gb199) (o := .cells #[.int .i64 0, .int .i64 0] 32 (0, 0)) (by (with_reducible repeat (first | refine qag ?_ _ | refine qaj ?_ | refine qaf ?_ _)); exact BK199.out) NB199_0.out (by simp)); have n1_ := qab.mk (Kd.qbb (Kd.qcr (IsS137.apart (show IsS137 w0 _ g s0_0 t204 t205 from by repeat (first | (with_reducible first | exact HI0.out | apply IsS137.alloc | apply IsS137.drewN | apply IsS137.drew | apply IsS137.set_1 | apply IsS137.set_2 | refine IsS137.far ?_ NB0_199.out _) | exact HI0.out)) (by (with_reducible repeat (first | apply Kd.qao | apply Kd.qan | apply Kd.qap)); exact HO202.out) (by decide)) hk (fun _ h => h.2)) (fun _ h => h.1)); have n2_ := qab.mk (Kd.qbb (Kd.qcr (IsS137.apart (show IsS137 w0 _ g s0_0 t204 t205 from by repeat (first | (with_reducible first | exact HI0.out | apply IsS137.alloc | apply IsS137.drewN | apply IsS137.drew | apply IsS137.set_1 | apply IsS137.set_2 | refine IsS137.far ?_ NB0_199.out _) | exact HI0.out)) (by (with_reducible repeat (first | apply Kd.qao | apply Kd.qan | apply Kd.qap)); exact HO208.out) (by decide)) hk (fun _ h => h.2)) (fun _ h => h.1)); have n3_ := qab.mk (KeepBut.trans (by repeat (first | (with_reducible first | exact HK.out | apply KeepBut.set_ | apply qaw | apply qba | apply qax | refine qbk ?_ GW199.out _) | exact HK.out)) hk (.inl rfl)); have n4_ := qab.mk (hb); have n5_ := qab.mk (hi); clear BK199; clear HO202; clear HO208; clear HK; clear HB; clear HI0; have BK199 := n0_; have HO202 := n1_; have HO208 := n2_; have HK := n3_; have HB := n4_; have HI0 := n5_; clear n0_ n1_ n2_ n3_ n4_ n5_; (try clear hb); (try clear hb2); (try clear hk); (try clear hi); have hnb13 := NB199_0.out; have hnc13 := NB0_199.out; have hcz14_0 : w12.cell? ⟨gb199, 0, none⟩ = some (.int .i64 0) := (qai BK199.out 0).trans rfl; have hcz14_1 : w12.cell? ⟨gb199, 1, none⟩ = some (.int .i64 0) := (qai BK199.out 1).trans rfl; have hfz14_0 := qah BK199.out 0; have hfz14_1 := qah BK199.out 1))
 refine bodyPost_ret (results_cell_row rfl _ _ gb199 32 #[.int .i64 t203, .int .i64 t209] (0, 0) _ rfl (by (with_reducible repeat (first | refine qag ?_ _ | refine qaj ?_ | refine qaf ?_ _)); refine qbi (cs := #[.int .i64 t203, .int .i64 0]) ?_ 1 _ rfl; (with_reducible repeat (first | refine qag ?_ _ | refine qaj ?_ | refine qaf ?_ _)); refine qbi (cs := #[.int .i64 0, .int .i64 0]) ?_ 0 _ rfl; (with_reducible repeat (first | refine qag ?_ _ | refine qaj ?_ | refine qaf ?_ _)); exact BK199.out) Try.underlying32 rfl (by kernel_rfl)) rfl ?_
 exact ⟨by first | rfl | (simp [errW_none, errW_some] <;> rfl) | (simp [*, errW_none, errW_some] <;> rfl), by repeat (first | (with_reducible first | exact HI0.out | apply IsS137.alloc | apply IsS137.drewN | apply IsS137.drew | apply IsS137.set_1 | apply IsS137.set_2 | refine IsS137.far ?_ NB0_199.out _) | exact HI0.out), by repeat (first | (with_reducible first | exact HB.out | apply qad | apply qaa | apply qac | refine qae ?_ (IsS137.ge HI0.out) | refine qae ?_ GE199.out) | exact HB.out), by repeat (first | (with_reducible first | exact HK.out | apply KeepBut.set_ | apply qaw | apply qba | apply qax | refine qbk ?_ GW199.out _) | exact HK.out)⟩


/-! ### spec_l01In: function 128 -/
def spec_l01In.f (a0 : Int) (a1 : Int) (a2 : Int) : Option (Bool) := if a0 ≥ a1 then (some (decide (a0 ≤ a2))) else (some false)
set_option maxHeartbeats 8000000 in
set_option maxRecDepth 100000 in
theorem spec_l01In.calls (a0 : Int) (a1 : Int) (a2 : Int) (r : Bool) (w : World) (h : spec_l01In.f a0 a1 a2 = some r) :
  Calls Try.prog 128 #[.int .i64 a0, .int .i64 a1, .int .i64 a2] w fun e w' => e = .returned (.bool r) ∧ Drawn0 w w' := by
 have H : (if a0 ≥ a1 then (some (decide (a0 ≤ a2))) else (some false)) = some r := h
 clear h
 by_cases c4 : a0 ≥ a1
 ·rw [if_pos c4] at H
  have c4b0 : decide (a1 ≤ a0) = true := decide_eq_true c4
  clear c4
  obtain rfl := Option.some.inj H
  go_enter Try.func128, Try.ntmps128
  go_wp2
  go_ret
  exact ⟨by first | rfl | (simp; done) | (simp [*]; done), by repeat (first | exact Drawn0.refl _ | apply Drawn0.step)⟩
 ·rw [if_neg c4] at H
  have c4b0 : decide (a1 ≤ a0) = false := decide_eq_false c4
  clear c4
  obtain rfl := Option.some.inj H
  go_enter Try.func128, Try.ntmps128
  go_wp2
  go_ret
  exact ⟨by first | rfl | (simp; done) | (simp [*]; done), by repeat (first | exact Drawn0.refl _ | apply Drawn0.step)⟩


/-! ### spec_GridOk: function 127 -/
def spec_GridOk.f (a0_0 : Int) (a0_1 : Int) : Option (Bool) := (spec_l01In.f a0_0 1 4).bind fun t213 => (if t213 = true then ((spec_l01In.f a0_1 1 4).bind fun t214 => (some t214)) else (some false))
set_option maxHeartbeats 8000000 in
set_option maxRecDepth 100000 in
theorem spec_GridOk.calls (a0_0 : Int) (a0_1 : Int) (r : Bool) (w : World) (h : spec_GridOk.f a0_0 a0_1 = some r) :
  Calls Try.prog 127 #[.agg #[.int .i64 a0_0, .int .i64 a0_1]] w fun e w' => e = .returned (.bool r) ∧ Below w.heap.size w w' := by
 have hu32 := Try.underlying32
 have HB := qab.mk (Below.refl w.heap.size w)
 have H : ((spec_l01In.f a0_0 1 4).bind fun t213 => (if t213 = true then ((spec_l01In.f a0_1 1 4).bind fun t214 => (some t214)) else (some false))) = some r := h
 clear h
 replace H := Option.bind_eq_some_iff.mp H
 obtain ⟨t213, A20, H⟩ := H
 try dsimp only at H
 have A2 := qab.mk A20
 clear A20
 by_cases c3 : t213 = true
 ·subst c3
  have H1 := H
  rw [if_pos rfl] at H1
  clear H
  have H := H1
  clear H1
  replace H := Option.bind_eq_some_iff.mp H
  obtain ⟨t214, A40, H⟩ := H
  try dsimp only at H
  have A4 := qab.mk A40
  clear A40
  obtain rfl := Option.some.inj H
  go_enter Try.func127, Try.ntmps127
  go_wp2_with (first | ((with_reducible refine qas (N := 1) rfl ?_); refine qar ?hg (N := 1) ?hd (cs := #[.int .i64 a0_0, .int .i64 a0_1]) (t := 32) ?hr ?_; (case hd => rfl); (case hg => rfl); (case hr => first | (go_simp; done) | (go_simp; rfl)); intro gb212 hg w5 hbox hb; have n0_ := qab.mk (qak (by repeat (first | (with_reducible first | exact HB.out | apply qad | apply qaa | apply qac) | exact HB.out)) hb); have n1_ := qab.mk (hbox); have n2_ := qab.mk ((by rw [hg]; exact (qal (by repeat (first | (with_reducible first | exact HB.out | apply qad | apply qaa | apply qac) | exact HB.out))) : w.heap.size ≤ gb212)); have n3_ := qab.mk ((by rw [hg]; exact (qal (by repeat (first | (with_reducible first | exact HB.out | apply qad | apply qaa | apply qac) | exact HB.out))) : w.heap.size ≤ gb212)); clear HB; have HB := n0_; have BK212 := n1_; have GW212 := n2_; have GE212 := n3_; clear n0_ n1_ n2_ n3_; clear hb hbox hg; have hcz6_0 : w5.cell? ⟨gb212, 0, none⟩ = some (.int .i64 a0_0) := (qai BK212.out 0).trans rfl; have hcz6_1 : w5.cell? ⟨gb212, 1, none⟩ = some (.int .i64 a0_1) := (qai BK212.out 1).trans rfl; have hfz6_0 := qah BK212.out 0; have hfz6_1 := qah BK212.out 1) | ((with_reducible refine qaq (f := 128) rfl ?_); refine qbe (some 5) rfl rfl Try.func128 (by kernel_rfl) rfl #[.int .i64 a0_0, .int .i64 1, .int .i64 4] rfl (by (try simp only [List.map_toArray, List.map_cons, List.map_nil]); first | done | rfl | (simp only [List.length_drop, List.length_take]; rfl)) ?_; (with_reducible refine (spec_l01In.calls a0_0 1 4 true _ A2.out).mono ?_); rintro e w' ⟨rfl, ⟨nd, rfl⟩⟩; refine ⟨_, rfl, ?_⟩) | (go_at_call 128; (with_reducible refine (spec_l01In.calls a0_1 1 4 t214 _ A4.out).mono ?_); rintro e w' ⟨rfl, ⟨nd, rfl⟩⟩))
  go_ret
  exact ⟨by first | rfl | (simp [errW_none, errW_some] <;> rfl) | (simp [*, errW_none, errW_some] <;> rfl), by repeat (first | (with_reducible first | exact HB.out | apply qad | apply qaa | apply qac | refine qae ?_ GE212.out) | exact HB.out)⟩
 ·replace c3 := Bool.eq_false_iff.mpr c3
  subst c3
  have H1 := H
  rw [if_neg (show ¬ (false = true) by decide)] at H1
  clear H
  have H := H1
  clear H1
  obtain rfl := Option.some.inj H
  go_enter Try.func127, Try.ntmps127
  go_wp2_with (first | ((with_reducible refine qas (N := 1) rfl ?_); refine qar ?hg (N := 1) ?hd (cs := #[.int .i64 a0_0, .int .i64 a0_1]) (t := 32) ?hr ?_; (case hd => rfl); (case hg => rfl); (case hr => first | (go_simp; done) | (go_simp; rfl)); intro gb212 hg w7 hbox hb; have n0_ := qab.mk (qak (by repeat (first | (with_reducible first | exact HB.out | apply qad | apply qaa | apply qac) | exact HB.out)) hb); have n1_ := qab.mk (hbox); have n2_ := qab.mk ((by rw [hg]; exact (qal (by repeat (first | (with_reducible first | exact HB.out | apply qad | apply qaa | apply qac) | exact HB.out))) : w.heap.size ≤ gb212)); have n3_ := qab.mk ((by rw [hg]; exact (qal (by repeat (first | (with_reducible first | exact HB.out | apply qad | apply qaa | apply qac) | exact HB.out))) : w.heap.size ≤ gb212)); clear HB; have HB := n0_; have BK212 := n1_; have GW212 := n2_; have GE212 := n3_; clear n0_ n1_ n2_ n3_; clear hb hbox hg; have hcz8_0 : w7.cell? ⟨gb212, 0, none⟩ = some (.int .i64 a0_0) := (qai BK212.out 0).trans rfl; have hcz8_1 : w7.cell? ⟨gb212, 1, none⟩ = some (.int .i64 a0_1) := (qai BK212.out 1).trans rfl; have hfz8_0 := qah BK212.out 0; have hfz8_1 := qah BK212.out 1) | ((with_reducible refine qaq (f := 128) rfl ?_); refine qbe (some 5) rfl rfl Try.func128 (by kernel_rfl) rfl #[.int .i64 a0_0, .int .i64 1, .int .i64 4] rfl (by (try simp only [List.map_toArray, List.map_cons, List.map_nil]); first | done | rfl | (simp only [List.length_drop, List.length_take]; rfl)) ?_; (with_reducible refine (spec_l01In.calls a0_0 1 4 false _ A2.out).mono ?_); rintro e w' ⟨rfl, ⟨nd, rfl⟩⟩; refine ⟨_, rfl, ?_⟩))
  go_ret
  exact ⟨by first | rfl | (simp [errW_none, errW_some] <;> rfl) | (simp [*, errW_none, errW_some] <;> rfl), by repeat (first | (with_reducible first | exact HB.out | apply qad | apply qaa | apply qac | refine qae ?_ GE212.out) | exact HB.out)⟩


/-! ### spec_NodeCount: function 79 -/
def spec_NodeCount.f (a0_0 : Int) (a0_1 : Int) : Option (Int) := (spec_GridOk.f a0_0 a0_1).bind fun t216 => (if t216 = true then (some (wrap64 (a0_0 * a0_1))) else (some 0))
set_option maxHeartbeats 8000000 in
set_option maxRecDepth 100000 in
theorem spec_NodeCount.calls (a0_0 : Int) (a0_1 : Int) (r : Int) (w : World) (h : spec_NodeCount.f a0_0 a0_1 = some r) :
  Calls Try.prog 79 #[.agg #[.int .i64 a0_0, .int .i64 a0_1]] w fun e w' => e = .returned (.int .i64 r) ∧ Below w.heap.size w w' := by
 have hu32 := Try.underlying32
 have HB := qab.mk (Below.refl w.heap.size w)
 have H : ((spec_GridOk.f a0_0 a0_1).bind fun t216 => (if t216 = true then (some (wrap64 (a0_0 * a0_1))) else (some 0))) = some r := h
 clear h
 replace H := Option.bind_eq_some_iff.mp H
 obtain ⟨t216, A20, H⟩ := H
 try dsimp only at H
 have A2 := qab.mk A20
 clear A20
 by_cases c3 : t216 = true
 ·subst c3
  have H1 := H
  rw [if_pos rfl] at H1
  clear H
  have H := H1
  clear H1
  obtain rfl := Option.some.inj H
  go_enter Try.func79, Try.ntmps79
  go_wp2_with (first | ((with_reducible refine qas (N := 1) rfl ?_); refine qar ?hg (N := 1) ?hd (cs := #[.int .i64 a0_0, .int .i64 a0_1]) (t := 32) ?hr ?_; (case hd => rfl); (case hg => rfl); (case hr => first | (go_simp; done) | (go_simp; rfl)); intro gb215 hg w4 hbox hb; have n0_ := qab.mk (qak (by repeat (first | (with_reducible first | exact HB.out | apply qad | apply qaa | apply qac) | exact HB.out)) hb); have n1_ := qab.mk (hbox); have n2_ := qab.mk ((by rw [hg]; exact (qal (by repeat (first | (with_reducible first | exact HB.out | apply qad | apply qaa | apply qac) | exact HB.out))) : w.heap.size ≤ gb215)); have n3_ := qab.mk ((by rw [hg]; exact (qal (by repeat (first | (with_reducible first | exact HB.out | apply qad | apply qaa | apply qac) | exact HB.out))) : w.heap.size ≤ gb215)); clear HB; have HB := n0_; have BK215 := n1_; have GW215 := n2_; have GE215 := n3_; clear n0_ n1_ n2_ n3_; clear hb hbox hg; have hcz5_0 : w4.cell? ⟨gb215, 0, none⟩ = some (.int .i64 a0_0) := (qai BK215.out 0).trans rfl; have hcz5_1 : w4.cell? ⟨gb215, 1, none⟩ = some (.int .i64 a0_1) := (qai BK215.out 1).trans rfl; have hfz5_0 := qah BK215.out 0; have hfz5_1 := qah BK215.out 1) | ((with_reducible refine qaq (f := 127) rfl ?_); refine qbe (some 4) rfl rfl Try.func127 (by kernel_rfl) rfl #[.agg #[.int .i64 a0_0, .int .i64 a0_1]] rfl (by (try simp only [List.map_toArray, List.map_cons, List.map_nil]); first | done | rfl | (simp only [List.length_drop, List.length_take]; rfl)) ?_; (with_reducible refine (spec_GridOk.calls a0_0 a0_1 true _ A2.out).mono ?_); rintro e w6 ⟨rfl, hb⟩; refine ⟨_, rfl, ?_⟩; have n0_ := qab.mk (qam (g := gb215) (o := .cells #[.int .i64 a0_0, .int .i64 a0_1] 32 (0, 0)) (by (with_reducible repeat (first | refine qag ?_ _ | refine qaj ?_ | refine qaf ?_ _)); exact BK215.out) hb); have n1_ := qab.mk (qak (by repeat (first | (with_reducible first | exact HB.out | apply qad | apply qaa | apply qac | refine qae ?_ GE215.out) | exact HB.out)) hb); clear BK215; clear HB; have BK215 := n0_; have HB := n1_; clear n0_ n1_; (try clear hb); (try clear hb2); (try clear hk); (try clear hi); have hcz7_0 : w6.cell? ⟨gb215, 0, none⟩ = some (.int .i64 a0_0) := (qai BK215.out 0).trans rfl; have hcz7_1 : w6.cell? ⟨gb215, 1, none⟩ = some (.int .i64 a0_1) := (qai BK215.out 1).trans rfl; have hfz7_0 := qah BK215.out 0; have hfz7_1 := qah BK215.out 1))
  go_ret
  exact ⟨by first | rfl | (simp [errW_none, errW_some] <;> rfl) | (simp [*, errW_none, errW_some] <;> rfl), by repeat (first | (with_reducible first | exact HB.out | apply qad | apply qaa | apply qac | refine qae ?_ GE215.out) | exact HB.out)⟩
 ·replace c3 := Bool.eq_false_iff.mpr c3
  subst c3
  have H1 := H
  rw [if_neg (show ¬ (false = true) by decide)] at H1
  clear H
  have H := H1
  clear H1
  obtain rfl := Option.some.inj H
  go_enter Try.func79, Try.ntmps79
  go_wp2_with (first | ((with_reducible refine qas (N := 1) rfl ?_); refine qar ?hg (N := 1) ?hd (cs := #[.int .i64 a0_0, .int .i64 a0_1]) (t := 32) ?hr ?_; (case hd => rfl); (case hg => rfl); (case hr => first | (go_simp; done) | (go_simp; rfl)); intro gb215 hg w8 hbox hb; have n0_ := qab.mk (qak (by repeat (first | (with_reducible first | exact HB.out | apply qad | apply qaa | apply qac) | exact HB.out)) hb); have n1_ := qab.mk (hbox); have n2_ := qab.mk ((by rw [hg]; exact (qal (by repeat (first | (with_reducible first | exact HB.out | apply qad | apply qaa | apply qac) | exact HB.out))) : w.heap.size ≤ gb215)); have n3_ := qab.mk ((by rw [hg]; exact (qal (by repeat (first | (with_reducible first | exact HB.out | apply qad | apply qaa | apply qac) | exact HB.out))) : w.heap.size ≤ gb215)); clear HB; have HB := n0_; have BK215 := n1_; have GW215 := n2_; have GE215 := n3_; clear n0_ n1_ n2_ n3_; clear hb hbox hg; have hcz9_0 : w8.cell? ⟨gb215, 0, none⟩ = some (.int .i64 a0_0) := (qai BK215.out 0).trans rfl; have hcz9_1 : w8.cell? ⟨gb215, 1, none⟩ = some (.int .i64 a0_1) := (qai BK215.out 1).trans rfl; have hfz9_0 := qah BK215.out 0; have hfz9_1 := qah BK215.out 1) | ((with_reducible refine qaq (f := 127) rfl ?_); refine qbe (some 4) rfl rfl Try.func127 (by kernel_rfl) rfl #[.agg #[.int .i64 a0_0, .int .i64 a0_1]] rfl (by (try simp only [List.map_toArray, List.map_cons, List.map_nil]); first | done | rfl | (simp only [List.length_drop, List.length_take]; rfl)) ?_; (with_reducible refine (spec_GridOk.calls a0_0 a0_1 false _ A2.out).mono ?_); rintro e w10 ⟨rfl, hb⟩; refine ⟨_, rfl, ?_⟩; have n0_ := qab.mk (qam (g := gb215) (o := .cells #[.int .i64 a0_0, .int .i64 a0_1] 32 (0, 0)) (by (with_reducible repeat (first | refine qag ?_ _ | refine qaj ?_ | refine qaf ?_ _)); exact BK215.out) hb); have n1_ := qab.mk (qak (by repeat (first | (with_reducible first | exact HB.out | apply qad | apply qaa | apply qac | refine qae ?_ GE215.out) | exact HB.out)) hb); clear BK215; clear HB; have BK215 := n0_; have HB := n1_; clear n0_ n1_; (try clear hb); (try clear hb2); (try clear hk); (try clear hi)))
  go_ret
  exact ⟨by first | rfl | (simp [errW_none, errW_some] <;> rfl) | (simp [*, errW_none, errW_some] <;> rfl), by repeat (first | (with_reducible first | exact HB.out | apply qad | apply qaa | apply qac | refine qae ?_ GE215.out) | exact HB.out)⟩


/-! ### spec_l05Column: function 180 -/
def spec_l05Column.f (a0 : Int) (a1 : Int) : Option (Int) := if a1 < a0 then (some 3) else (some 1)
set_option maxHeartbeats 8000000 in
set_option maxRecDepth 100000 in
theorem spec_l05Column.calls (a0 : Int) (a1 : Int) (r : Int) (w : World) (h : spec_l05Column.f a0 a1 = some r) :
  Calls Try.prog 180 #[.int .i64 a0, .int .i64 a1] w fun e w' => e = .returned (.int .i64 r) ∧ Drawn0 w w' := by
 have H : (if a1 < a0 then (some 3) else (some 1)) = some r := h
 clear h
 by_cases c3 : a1 < a0
 ·rw [if_pos c3] at H
  have c3b0 : decide (a1 < a0) = true := decide_eq_true c3
  clear c3
  obtain rfl := Option.some.inj H
  go_enter Try.func180, Try.ntmps180
  go_wp2
  go_ret
  exact ⟨by first | rfl | (simp; done) | (simp [*]; done), by repeat (first | exact Drawn0.refl _ | apply Drawn0.step)⟩
 ·rw [if_neg c3] at H
  have c3b0 : decide (a1 < a0) = false := decide_eq_false c3
  clear c3
  obtain rfl := Option.some.inj H
  go_enter Try.func180, Try.ntmps180
  go_wp2
  go_ret
  exact ⟨by first | rfl | (simp; done) | (simp [*]; done), by repeat (first | exact Drawn0.refl _ | apply Drawn0.step)⟩


/-! ### spec_l05Row: function 181 -/
def spec_l05Row.f (a0 : Int) (a1 : Int) : Option (Int) := if a1 < a0 then (some 0) else (some 2)
set_option maxHeartbeats 8000000 in
set_option maxRecDepth 100000 in
theorem spec_l05Row.calls (a0 : Int) (a1 : Int) (r : Int) (w : World) (h : spec_l05Row.f a0 a1 = some r) :
  Calls Try.prog 181 #[.int .i64 a0, .int .i64 a1] w fun e w' => e = .returned (.int .i64 r) ∧ Drawn0 w w' := by
 have H : (if a1 < a0 then (some 0) else (some 2)) = some r := h
 clear h
 by_cases c3 : a1 < a0
 ·rw [if_pos c3] at H
  have c3b0 : decide (a1 < a0) = true := decide_eq_true c3
  clear c3
  obtain rfl := Option.some.inj H
  go_enter Try.func181, Try.ntmps181
  go_wp2
  go_ret
  exact ⟨by first | rfl | (simp; done) | (simp [*]; done), by repeat (first | exact Drawn0.refl _ | apply Drawn0.step)⟩
 ·rw [if_neg c3] at H
  have c3b0 : decide (a1 < a0) = false := decide_eq_false c3
  clear c3
  obtain rfl := Option.some.inj H
  go_enter Try.func181, Try.ntmps181
  go_wp2
  go_ret
  exact ⟨by first | rfl | (simp; done) | (simp [*]; done), by repeat (first | exact Drawn0.refl _ | apply Drawn0.step)⟩


end Go.Proofs.Ytmfkgnfjjfnfmaa.XV
