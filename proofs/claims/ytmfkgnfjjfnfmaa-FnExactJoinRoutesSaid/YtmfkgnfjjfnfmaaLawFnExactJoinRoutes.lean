/- What is proved: the law FnExactJoinRoutes for every input: it returns true, and its arguments read as before; the statement's row, out of the pure statement. -/
import Derived.Test.YtmfkgnfjjfnfmaaRows
import Derived.Test.YtmfkgnfjjfnfmaaOpen
import Derived.Test.YtmfkgnfjjfnfmaaXJ5
import Derived.Test.YtmfkgnfjjfnfmaaPureFnExactJoinRoutes
import Derived.WalkKit
import Derived.ProofKit
import Derived.OpenShut
import Derived.ShutString
import Derived.ChangeOld
import Derived.Below
import Derived.SizedLaws
import Derived.Test.YtmfkgnfjjfnfmaaWSized
set_option linter.unusedVariables false
namespace Go.Proofs.Ytmfkgnfjjfnfmaa.fnExactJoinRoutes
open Go.ChangeShapes Go.WideShapes Go.ChangeAt Go.RowKit
open Go.ChangeMaps (open_string shut_string)
theorem own : ownKnob Try.prog.godebug = none := by kernel_rfl
theorem laidOut : laidOutB Try.prog = true := by kernel_rfl
set_option maxRecDepth 100000 in
theorem lifted (os : Os) (started : os.Started) (H : Type) (enc : TypeId × Value → H) :
    ReturnsInHanded {} Try.checked os 10 .any (Rows.fnExactJoinRoutesSpec.pre6 enc Try.prog Try.f10 Rows.fnExactJoinRoutesRow.domain false) (Rows.fnExactJoinRoutesSpec.post enc Try.prog Try.f10 false true false false) := by
  refine returnsInHanded_of_change_sized (C := Try.checked) own started (by kernel_rfl) Try.func10
    (ChangeSpec.witness6 (enc := enc) (C := Try.checked) false ⟨#[], #[.agg #[.int .i64 0, .int .i64 0, .slice none 0 0], .slice none 0 0, .slice none 0 0], []⟩ 8 (by kernel_rfl) (by kernel_rfl) (by kernel_rfl) (by kernel_rfl)) ?_
  intro W base args ds gs before hval0 hW hcnd hsz0 _
  have hsz : (DataW.weightsEach Try.prog (Try.f10.params.toList ++ Rows.fnExactJoinRoutesSpec.plain.varTypes Try.prog) (ds ++ gs)).all (· ≤ reachBytes) = true := hsz0
  have hval : ∀ (j : Nat) t v, Try.f10.params[j]? = some t → args[j]? = some v → Value.okWide Try.prog W .any base t v := hval0
  have hW' := hW
  obtain ⟨p, q, hA0, hV, rfl, hfz, hnd⟩ := hW
  have hA : DataW.TrodAll enc Try.prog W 0 (fun _ => true) true Try.f10.params.toList args.toList ds p := hA0
  rw [Try.params10] at hA hval hsz
  obtain ⟨v0, vs0, d0, ds0, p0, q0, hargs, rfl, rfl, h0, r0⟩ := trodAll_cons hA
  obtain ⟨v1, vs1, d1, ds1, p1, q1, rfl, rfl, rfl, h1, r1⟩ := trodAll_cons r0
  obtain ⟨v2, vs2, d2, ds2, p2, q2, rfl, rfl, rfl, h2, r2⟩ := trodAll_cons r1
  obtain ⟨rfl, rfl, rfl⟩ := trodAll_nil r2
  obtain rfl : args = #[v0, v1, v2] := by cases args; simp_all
  obtain ⟨rfl, rfl⟩ := trodVars_none hV
  have k0 := h0
  have lt0 : ∀ x ∈ p0, x.block < W.heap.size := by obtain ⟨m, hm⟩ := k0; exact DataW.trod_lt m _ _ _ hm
  obtain ⟨a0_0, a0_1, A0_2, c0_2, l0_2, rfl, w0_0, w0_1, hr0_2, hm0_2, hw0_2, hc0_2⟩ := Opn.mesh Try.underlying26 (by kernel_rfl) rfl rfl (by kernel_rfl) (by kernel_rfl) Try.underlying23 rfl rfl (by kernel_rfl) (by kernel_rfl) Try.underlying3 Try.underlying3 Try.underlying24 Try.underlying3 (by kernel_rfl) (hval 0 26 v0 rfl rfl) h0
  have k1 := h1
  have lt1 : ∀ x ∈ p1, x.block < W.heap.size := by obtain ⟨m, hm⟩ := k1; exact DataW.trod_lt m _ _ _ hm
  have y1 : ∀ {len cap : Nat} {a : Option Addr}, v1 = .slice a len cap → len * 8 ≤ 140737488351232 := by rintro len cap a rfl; exact Go.Proofs.YtmfkgnfjjfnfmaaW.PrintWords.sized_ints hsz (j := 1) (t := 24) rfl rfl Try.underlying24 Try.underlying3 (by kernel_rfl) (by kernel_rfl) h1
  obtain ⟨A1, c1, l1, e1, hr1, hm1, hw1, hc1⟩ := Opn.slInts Try.underlying24 Try.underlying3 (by kernel_rfl) (hval 1 24 v1 rfl rfl) h1
  have yz1 := y1 e1
  clear y1
  subst e1
  have k2 := h2
  have lt2 : ∀ x ∈ p2, x.block < W.heap.size := by obtain ⟨m, hm⟩ := k2; exact DataW.trod_lt m _ _ _ hm
  have y2 : ∀ {len cap : Nat} {a : Option Addr}, v2 = .slice a len cap → len * 8 ≤ 140737488351232 := by rintro len cap a rfl; exact Go.Proofs.YtmfkgnfjjfnfmaaW.PrintWords.sized_ints hsz (j := 2) (t := 24) rfl rfl Try.underlying24 Try.underlying3 (by kernel_rfl) (by kernel_rfl) h2
  obtain ⟨A2, c2, l2, e2, hr2, hm2, hw2, hc2⟩ := Opn.slInts Try.underlying24 Try.underlying3 (by kernel_rfl) (hval 2 24 v2 rfl rfl) h2
  have yz2 := y2 e2
  clear y2
  subst e2
  clear hA0 hval0 hsz0 hsz
  refine (XJ.laws_FnExactJoinRoutes.walk Pure.FnExactJoinRoutes a0_0 a0_1 A0_2 c0_2 l0_2 A1 c1 l1 A2 c2 l2 W hr0_2 hc0_2 hr1 hc1 hr2 hc2 w0_0 w0_1 hm0_2 hw0_2 hm1 yz1 hw1 hm2 yz2 hw2).mono fun e W' ⟨he, bel⟩ => ?_
  subst he
  exact ⟨_, rfl, _, _, _, [], _, [], hW', trodAll_mk1 (shut_bool Try.underlying4 _), (trodAll_cons_mk (Below.trod laidOut (by kernel_rfl) (of_decide_eq_true (by kernel_rfl)) k0 bel lt0) (trodAll_cons_mk (Below.trod laidOut (by kernel_rfl) (of_decide_eq_true (by kernel_rfl)) k1 bel lt1) (trodAll_cons_mk (Below.trod laidOut (by kernel_rfl) (of_decide_eq_true (by kernel_rfl)) k2 bel lt2) trodAll_mk0))), rfl, bel.frame _, fun h => by cases h⟩
theorem over : Rows.fnExactJoinRoutesRow.holds Try.pinned (OpenSpec.ofChange Rows.fnExactJoinRoutesSpec) :=
  OpenClaim.holds_of_wide 10 Try.f10 rfl rfl rfl rfl rfl rfl rfl ⟨rfl, rfl, rfl, rfl, rfl⟩ rfl rfl rfl rfl rfl (by kernel_rfl) Try.func10 (by kernel_rfl)
    (of_decide_eq_true (by kernel_rfl)) (by unfold Func.isWrapper; first | (rw [if_pos (by decide +kernel)]; kernel_rfl) | (rw [if_neg (by decide +kernel)]; exact ⟨rfl, rfl⟩))
    (fun os started H enc _ => lifted os started H enc)
theorem proved : Rows.FnExactJoinRoutesSaid := over
#print axioms proved
end Go.Proofs.Ytmfkgnfjjfnfmaa.fnExactJoinRoutes
namespace Go.Proofs.Ytmfkgnfjjfnfmaa
/-- The row, under a short name, for the claim. -/
theorem fnExactJoinRoutes_holds : Rows.FnExactJoinRoutesSaid := fnExactJoinRoutes.proved
end Go.Proofs.Ytmfkgnfjjfnfmaa
