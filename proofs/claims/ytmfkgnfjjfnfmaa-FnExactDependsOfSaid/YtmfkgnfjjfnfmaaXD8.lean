/- What is proved: contracts of functions of the program (each: where its Lean function answers, the call returns that answer); written by a program of this session. -/
import Derived.Test.YtmfkgnfjjfnfmaaXD0
import Derived.Test.YtmfkgnfjjfnfmaaXD6
import Derived.Test.YtmfkgnfjjfnfmaaXD7
namespace Go.Proofs.Ytmfkgnfjjfnfmaa.XD
open Go.RowKit Go.Proofs.YtmfkgnfjjfnfmaaW.PrintWords Go.Proofs.YtmfkgnfjjfnfmaaW.PrintLast Go.Proofs.YtmfkgnfjjfnfmaaW.PrintMore
attribute [local go_sem] qbz qbx qcf qce qbr qbq qby qbw   -- for this text's walks alone
set_option linter.unusedVariables false
set_option linter.unusedSimpArgs false

/-! ### impl_adjacent: function 82 (by hand) -/
/-- what a visitor of adjacent may do. J: what holds while these pairs are still to be visited; O: the blocks that it may write -/
structure Vis (g : Nat) (lb : Array Value) (w00 : World) (J : List (Int × Int) → World → Prop) (O : World → Nat → Prop) : Prop where
 eg : ∀ args W, (callFunc g args).run Try.prog W = .ok (.enter g args) W
 elder : ∀ l W, J l W → Below w00.heap.size w00 W
 lt : ∀ l W k, J l W → O W k → k < W.heap.size
 move : ∀ l W W', J l W → Below W.heap.size W W' → J l W' ∧ ∀ k, O W' k → O W k
 step : ∀ a b l W, J ((a, b) :: l) W → Calls Try.prog g (#[.int .i64 a, .int .i64 b] ++ lb) W fun e W' => e = .returned (.tuple #[]) ∧ J l W' ∧ W.heap.size ≤ W'.heap.size ∧ (∀ k, k < W.heap.size → ¬ O W k → W'.heap[k]? = W.heap[k]?) ∧ (∀ k, O W' k → O W k ∨ W.heap.size ≤ k)
/-- two adjacent elements, from the place i on -/
def adf (x : List Int) (i : Nat) : List (Int × Int) := (List.range' i (x.length - i)).map fun (j : Nat) => (rd x ((j - 1 : Nat) : Int), rd x (j : Int))
theorem adf_lt {x : List Int} {i : Nat} (h : i < x.length) : adf x i = (rd x ((i - 1 : Nat) : Int), rd x (i : Int)) :: adf x (i + 1) := by
 unfold adf
 rw [show x.length - i = (x.length - (i + 1)) + 1 by omega, List.range'_succ, List.map_cons]
theorem adf_end {x : List Int} {i : Nat} (h : x.length ≤ i) : adf x i = [] := by
 unfold adf
 rw [show x.length - i = 0 by omega]
 rfl
def impl_adjacent.wk (k : Nat) (w h : Int) (l p : List Int) : List (Int × Int) → Option (List (Int × Int))
 | [] => some []
 | (a, b) :: r => (impl_WalkTable.f k w h l p a b).bind fun x => (impl_adjacent.wk k w h l p r).bind fun t => some (adf x 1 ++ t)
theorem impl_adjacent.mono_w (w h : Int) (l p : List Int) (k : Nat) : ∀ r, LeO (impl_adjacent.wk k w h l p r) (impl_adjacent.wk (k + 1) w h l p r)
 | [] => LeO.refl _
 | (a, b) :: r => by
  have ih := impl_adjacent.mono_w w h l p k r
  unfold impl_adjacent.wk
  exact LeO.bind (impl_WalkTable.mono _ _ _ _ _ _ _) (fun x => LeO.bind ih (fun _ => LeO.refl _))
/-- the boxes of adjacent, and that the visitor writes none of them -/
def AdB (w h : Int) (A : Option Addr) (n c : Nat) (A1 : Option Addr) (n1 c1 : Nat) (g : Nat) (lb : Array Value) (bm bt bv : Nat) (O : World → Nat → Prop) (W : World) : Prop :=
 W.heap[bm]? = some (.cells #[.int .i64 w, .int .i64 h, .slice A n c] 34 (0, 0)) ∧ W.heap[bt]? = some (.cells #[.slice A1 n1 c1] 36 (0, 0)) ∧ W.heap[bv]? = some (.cells #[.func (.func g) #[] lb] 98 (0, 0)) ∧ ¬ O W bm ∧ ¬ O W bt ∧ ¬ O W bv
theorem AdB.below {w h : Int} {A : Option Addr} {n c : Nat} {A1 : Option Addr} {n1 c1 g : Nat} {lb : Array Value} {bm bt bv : Nat} {O : World → Nat → Prop} {W W' : World} (t : AdB w h A n c A1 n1 c1 g lb bm bt bv O W) (hb : Below W.heap.size W W') (hO : ∀ k, O W' k → O W k) : AdB w h A n c A1 n1 c1 g lb bm bt bv O W' := by
 obtain ⟨t1, t2, t3, t4, t5, t6⟩ := t
 exact ⟨qam t1 hb, qam t2 hb, qam t3 hb, fun x => t4 (hO _ x), fun x => t5 (hO _ x), fun x => t6 (hO _ x)⟩
theorem AdB.step {w h : Int} {A : Option Addr} {n c : Nat} {A1 : Option Addr} {n1 c1 g : Nat} {lb : Array Value} {bm bt bv : Nat} {O : World → Nat → Prop} {W W' : World} (t : AdB w h A n c A1 n1 c1 g lb bm bt bv O W) (hf : ∀ k, k < W.heap.size → ¬ O W k → W'.heap[k]? = W.heap[k]?) (hO : ∀ k, O W' k → O W k ∨ W.heap.size ≤ k) : AdB w h A n c A1 n1 c1 g lb bm bt bv O W' := by
 obtain ⟨t1, t2, t3, t4, t5, t6⟩ := t
 have m : ∀ k o, W.heap[k]? = some o → ¬ O W k → W'.heap[k]? = some o ∧ ¬ O W' k := fun k o hk no => by
  have hlt := (Array.getElem?_eq_some_iff.1 hk).1
  refine ⟨(hf k hlt no).trans hk, fun x => ?_⟩
  rcases hO k x with y | y
  ·exact no y
  ·omega
 exact ⟨(m _ _ t1 t4).1, (m _ _ t2 t5).1, (m _ _ t3 t6).1, (m _ _ t1 t4).2, (m _ _ t2 t5).2, (m _ _ t3 t6).2⟩
set_option maxHeartbeats 8000000 in
set_option maxRecDepth 100000 in
/-- the visitor that adjacent hands to pairs: it visits the adjacent channels of one walk -/
theorem impl_adjacent.clo (k : Nat) (w h : Int) (A : Option Addr) (c : Nat) (l : List Int) (A1 : Option Addr) (c1 : Nat) (p : List Int) (a b : Int) (x : List Int) (bm bt bv g : Nat) (lb : Array Value) (w00 W : World) (J : List (Int × Int) → World → Prop) (O : World → Nat → Prop) (V : Vis g lb w00 J O) (rest : List (Int × Int))
  (hJ : J (adf x 1 ++ rest) W) (hB : AdB w h A l.length c A1 p.length c1 g lb bm bt bv O W)
  (hr : Kd.C (Kd.int .i64) w00 A l.length l) (hc : l.length ≤ c) (hr1 : Kd.C (Kd.int .i64) w00 A1 p.length p) (hc1 : p.length ≤ c1) (hx : impl_WalkTable.f k w h l p a b = some x) :
  Calls Try.prog 131 #[.int .i64 a, .int .i64 b, .pointer (some ⟨bm, 0, none⟩), .pointer (some ⟨bt, 0, none⟩), .pointer (some ⟨bv, 0, none⟩)] W fun e W' => e = .returned (.bool true) ∧ J rest W' ∧ AdB w h A l.length c A1 p.length c1 g lb bm bt bv O W' := by
 have hu1 := Try.underlying34
 have hu2 := Try.underlying36
 have HV := qad.mk V
 have HX := qad.mk hx
 have HR := qad.mk hr
 have HR1 := qad.mk hr1
 have HJ := qad.mk hJ
 have HB := qad.mk hB
 clear V hx hr hr1 hJ
 have e0 : W.cell? ⟨bm, 0, none⟩ = some (.int .i64 w) := (qag hB.1 0).trans rfl
 have e1 : W.cell? ⟨bm, 1, none⟩ = some (.int .i64 h) := (qag hB.1 1).trans rfl
 have e2 : W.cell? ⟨bm, 2, none⟩ = some (.slice A l.length c) := (qag hB.1 2).trans rfl
 have e3 : W.cell? ⟨bt, 0, none⟩ = some (.slice A1 p.length c1) := (qag hB.2.1 0).trans rfl
 clear hB
 go_enter Try.func131, Try.ntmps131
 go_wp2_with (go_at_call 52; refine (impl_WalkTable.calls k w h A c l A1 c1 p a b x _ (Kd.qaz HR.out (HV.out.elder _ _ HJ.out)) hc (Kd.qaz HR1.out (HV.out.elder _ _ HJ.out)) hc1 HX.out).mono ?_; rintro e w1 ⟨v, rfl, ho, hb⟩; obtain ⟨A2, c2, rfl, hl2, _⟩ := Kd.qcl ho; have n1 := qad.mk (HV.out.move _ _ _ HJ.out hb); have n2 := qad.mk (AdB.below HB.out hb n1.out.2); have HO : qad (Kd.R (Kd.int .i64) 3 w1 W.heap.size (fun k => ¬ O w1 k) (.slice A2 x.length c2) x) := ⟨Kd.qbe (Kd.qcz ho) (fun k hk ho' => by have z := HV.out.lt _ _ k HJ.out (n1.out.2 k ho'); have := hk.2.1; omega)⟩; clear HJ HB ho hb e0 e1 e2 e3; have HJ := qad.mk n1.out.1; have HB := n2; clear n1 n2)
 have hxl : x.length ≤ 9223372036854775807 := (Kd.qaw HO.out).2.2.2.1
 go_loopg [9] (x.length + 1) (fun kq v9 wr => ∃ i : Nat, 1 ≤ i ∧ (i ≤ x.length ∨ i = 1) ∧ x.length - i < kq ∧ v9 = .int .i64 (i : Int) ∧ qad (J (adf x i ++ rest) wr) ∧ qad (AdB w h A l.length c A1 p.length c1 g lb bm bt bv O wr) ∧ qad (Kd.R (Kd.int .i64) 3 wr W.heap.size (fun k => ¬ O wr k) (.slice A2 x.length c2) x))
 case atStart => exact ⟨1, by omega, by omega, by omega, rfl, HJ, HB, HO⟩
 case round =>
  clear HJ HB HO
  obtain ⟨i, hi1, hi, hgk, rfl, HJ, HB, HO⟩ := hrel
  by_cases hlt : i < x.length
  ·have hltz : (i : Int) < (x.length : Int) := by omega
   have p1 : (0 : Int) ≤ (i : Int) := by omega
   have p2 : (0 : Int) ≤ ((i - 1 : Nat) : Int) := by omega
   have p3 : ((i - 1 : Nat) : Int) < (x.length : Int) := by omega
   have HW : qad (IntKind.i64.wrap ((i : Int) - 1) = ((i - 1 : Nat) : Int)) := ⟨(i64_w _).trans (by unfold wrap64; omega)⟩
   obtain ⟨ad, ead, hx0⟩ := Kd.qbh (Kd.qaw HO.out).2.2 ((i - 1 : Nat) : Int) p2 p3
   obtain ⟨ad', ead', hx1⟩ := Kd.qbh (Kd.qaw HO.out).2.2 (i : Int) p1 hltz
   subst ead
   obtain rfl : ad = ad' := by injection ead'
   clear ead'
   have HJ2 : qad (J ((rd x ((i - 1 : Nat) : Int), rd x (i : Int)) :: (adf x (i + 1) ++ rest)) wr) := ⟨by have := HJ.out; rw [adf_lt hlt] at this; exact this⟩
   clear HJ
   rw [show ((i - 1 : Nat) : Int).toNat = i - 1 by simp] at hx0
   rw [show (i : Int).toNat = i by simp] at hx1
   generalize hz0 : rd x ((i - 1 : Nat) : Int) = z0 at hx0 HJ2
   generalize hz1 : rd x (i : Int) = z1 at hx1 HJ2
   clear hz0 hz1
   have ev : wr.cell? ⟨bv, 0, none⟩ = some (.func (.func g) #[] lb) := (qag HB.out.2.2.1 0).trans rfl
   have hw1 := HW.out
   go_wp2_with (fail)
   go_still_tail 10, (by kernel_rfl)
   clear hw1 HW
   change wpList _ _ _ _ _ wr.drew
   have hbd : Below wr.heap.size wr wr.drew := (Below.refl _ _).drew
   have n1 := qad.mk (HV.out.move _ _ _ HJ2.out hbd)
   have n2 := qad.mk (AdB.below HB.out hbd n1.out.2)
   have n3 : qad (Kd.R (Kd.int .i64) 3 wr.drew W.heap.size (fun k => ¬ O wr.drew k) (.slice (some ad) x.length c2) x) := ⟨Kd.qbe (Kd.qax HO.out hbd) (fun k hk ho' => hk (n1.out.2 k ho'))⟩
   clear HJ2 HB HO hbd hx0 hx1 ev
   have HS := qad.mk (HV.out.step z0 z1 _ _ n1.out.1)
   clear n1
   generalize wr.drew = w2 at n2 n3 HS
   have heg := HV.out.eg
   go_wp2_with (fail)
   clear heg
   refine (HS.out).mono ?_
   rintro e w3 ⟨rfl, hj, hsz, hf, ho⟩
   have HJ := qad.mk hj
   have HB := qad.mk (AdB.step n2.out hf ho)
   have HO : qad (Kd.R (Kd.int .i64) 3 w3 W.heap.size (fun k => ¬ O w3 k) (.slice (some ad) x.length c2) x) := ⟨Kd.qbe (Kd.qdm (Kd.qcz n3.out) (fun k hk => hf k hk.2.2.1 hk.1)) (fun k hk ho' => by rcases ho k ho' with y | y; exact hk.1 y; have := hk.2.2.1; omega)⟩
   clear hj hsz hf ho n2 n3 HS
   go_wp2_with (fail)
   go_roundg (x.length - i)
   case measure => omega
   case rel => exact ⟨i + 1, by omega, by omega, by omega, by go_num, HJ, HB, HO⟩
  ·have hltz : ¬ (i : Int) < (x.length : Int) := by omega
   have HJ3 : qad (J rest wr) := ⟨by have := HJ.out; rw [adf_end (by omega), List.nil_append] at this; exact this⟩
   clear HJ
   go_wp2
   go_ret
   exact ⟨rfl, HJ3.out, HB.out⟩
set_option maxHeartbeats 4000000 in
set_option maxRecDepth 100000 in
theorem impl_adjacent.abs (k : Nat) (w h : Int) (A : Option Addr) (c : Nat) (l : List Int) (A1 : Option Addr) (c1 : Nat) (p : List Int) (N : Nat) (hn : impl_NodeCount.f w h = some (N : Int)) (hN : N ≤ 16) (vs : List (Int × Int)) (hvs : impl_adjacent.wk k w h l p (pall N 0) = some vs) (g : Nat) (lb : Array Value) (w00 W : World) (J : List (Int × Int) → World → Prop) (O : World → Nat → Prop) (V : Vis g lb w00 J O) (hJ : J vs W)
  (hr : Kd.C (Kd.int .i64) w00 A l.length l) (hc : l.length ≤ c) (hr1 : Kd.C (Kd.int .i64) w00 A1 p.length p) (hc1 : p.length ≤ c1) :
  Calls Try.prog 82 #[.agg #[.int .i64 w, .int .i64 h, .slice A l.length c], .agg #[.slice A1 p.length c1], .func (.func g) #[] lb] W fun e W' => e = .returned (.tuple #[]) ∧ J [] W' := by
 have hu1 := Try.underlying34
 have hu2 := Try.underlying36
 have hu3 := Try.underlying32
 have HV := qad.mk V
 have HN := qad.mk hn
 have HVS := qad.mk hvs
 have HR := qad.mk hr
 have HR1 := qad.mk hr1
 have HJ := qad.mk hJ
 have HB := qad.mk (Below.refl W.heap.size W)
 clear V hn hvs hr hr1 hJ
 go_enter Try.func82, Try.ntmps82
 go_wp2_with (first
  | ((with_reducible refine qar (N := 3) rfl ?_); refine qaq ?hg (N := 3) ?hd (cs := #[.int .i64 w, .int .i64 h, .slice A l.length c]) (t := 34) ?hr ?_; (case hd => rfl); (case hg => rfl); (case hr => first | (go_simp; done) | (go_simp; rfl)); intro gm hgm w1 hbox hb; have n1 := qad.mk (qak HB.out hb); have BKm := qad.mk hbox; have GM := qad.mk hgm; clear HB hb hbox hgm; have HB := n1; clear n1)
  | ((with_reducible refine qar (N := 4) rfl ?_); refine qaq ?hg (N := 4) ?hd (cs := #[.slice A1 p.length c1]) (t := 36) ?hr ?_; (case hd => rfl); (case hg => rfl); (case hr => first | (go_simp; done) | (go_simp; rfl)); intro gt hgt w2 hbox hb; have n1 := qad.mk (qak HB.out hb); have n2 := qad.mk (qam BKm.out hb); have BKt := qad.mk hbox; have GT : qad (W.heap.size ≤ gt) := ⟨by rw [hgt]; exact HB.out.size⟩; clear HB BKm hb hbox hgt; have HB := n1; have BKm := n2; clear n1 n2)
  | ((with_reducible refine qar (N := 5) rfl ?_); refine qaq ?hg (N := 5) ?hd (cs := #[.func (.func g) #[] lb]) (t := 98) ?hr ?_; (case hd => rfl); (case hg => rfl); (case hr => first | (go_simp; done) | (go_simp; rfl)); intro gv hgv w3 hbox hb; have n1 := qad.mk (qak HB.out hb); have n2 := qad.mk (qam BKm.out hb); have n3 := qad.mk (qam BKt.out hb); have BKv := qad.mk hbox; have GV : qad (W.heap.size ≤ gv) := ⟨by rw [hgv]; exact HB.out.size⟩; clear HB BKm BKt hb hbox hgv; have HB := n1; have BKm := n2; have BKt := n3; clear n1 n2 n3; have e0 : w3.cell? ⟨gm, 0, none⟩ = some (.int .i64 w) := (qag BKm.out 0).trans rfl; have e1 : w3.cell? ⟨gm, 1, none⟩ = some (.int .i64 h) := (qag BKm.out 1).trans rfl))
 have M1 := HV.out.move _ _ _ HJ.out HB.out
 have nO : ∀ b, W.heap.size ≤ b → ¬ O w3 b := fun b hb ho => by
  have z := HV.out.lt _ _ b HJ.out (M1.2 b ho)
  omega
 have HA : qad (AdB w h A l.length c A1 p.length c1 g lb gm gt gv O w3) := ⟨BKm.out, BKt.out, BKv.out, nO _ (by rw [GM.out]; exact Nat.le_refl _), nO _ GT.out, nO _ GV.out⟩
 have HJ3 := qad.mk M1.1
 clear M1 nO e0 e1
 refine (impl_pairs.abs w h N HN.out hN 131 #[.pointer (some ⟨gm, 0, none⟩), .pointer (some ⟨gt, 0, none⟩), .pointer (some ⟨gv, 0, none⟩)] true (fun r W' => ∃ t, impl_adjacent.wk k w h l p r = some t ∧ J t W' ∧ AdB w h A l.length c A1 p.length c1 g lb gm gt gv O W') (fun W' => J [] W') (fun args W => by kernel_rfl) ?hJ ?hstep ?hend _ ⟨vs, HVS.out, HJ3.out, HA.out⟩).mono ?_
 case hJ =>
  rintro r W1 W2 ⟨t, h1, h2, h3⟩ hb
  have z := HV.out.move _ _ _ h2 hb
  exact ⟨t, h1, z.1, AdB.below h3 hb z.2⟩
 case hstep =>
  rintro a b r W1 ⟨t, h1, h2, h3⟩
  unfold impl_adjacent.wk at h1
  obtain ⟨x, hx, h1⟩ := Option.bind_eq_some_iff.1 h1
  obtain ⟨t2, ht2, h1⟩ := Option.bind_eq_some_iff.1 h1
  obtain rfl := Option.some.inj h1
  refine ⟨true, (impl_adjacent.clo k w h A c l A1 c1 p a b x gm gt gv g lb w00 W1 J O HV.out t2 h2 h3 HR.out hc HR1.out hc1 hx).mono ?_⟩
  rintro e W' ⟨rfl, hj, hb⟩
  exact ⟨rfl, fun _ => ⟨t2, ht2, hj, hb⟩, fun hd => absurd hd (by decide)⟩
 case hend =>
  rintro W1 ⟨t, h1, h2, _⟩
  obtain rfl := Option.some.inj h1
  exact ⟨rfl, h2⟩
 rintro e w' ⟨rfl, hj⟩
 go_wp2
 go_end0
 exact ⟨rfl, hj⟩
/-- a captured slice to which a visitor appends: its box bo (cells of type t), its row (elements of type e) -/
def Acc {α : Type} (d : Kd α) (e t : TypeId) (w00 : World) (bo : Nat) (l : List α) (W : World) : Prop :=
 Below w00.heap.size w00 W ∧ w00.heap.size ≤ bo ∧ ∃ v, W.heap[bo]? = some (.cells #[v] t (0, 0)) ∧ d.R e W w00.heap.size (fun _ => True) v l
/-- the blocks that such a visitor may write -/
def AccO (t : TypeId) (bo : Nat) (W : World) (k : Nat) : Prop := k = bo ∨ ∃ v, W.heap[bo]? = some (.cells #[v] t (0, 0)) ∧ v.ownBlock = some k
section
variable {α : Type} {d : Kd α} {e t : TypeId} {w00 W W' : World} {bo : Nat} {l l' : List α}
theorem Acc.move (h : Acc d e t w00 bo l W) (hb : Below W.heap.size W W') : Acc d e t w00 bo l W' ∧ ∀ k, AccO t bo W' k → AccO t bo W k := by
 obtain ⟨h1, h2, v, h3, h4⟩ := h
 refine ⟨⟨qak h1 hb, h2, v, qam h3 hb, Kd.qax h4 hb⟩, fun k hk => ?_⟩
 rcases hk with hk | ⟨u, hu, hk⟩
 ·exact .inl hk
 ·refine .inr ⟨u, ?_, hk⟩
  rw [← hu]
  exact (hb.block bo (qbb h3)).symm
theorem Acc.lt (h : Acc d e t w00 bo l W) (k : Nat) (hk : AccO t bo W k) : k < W.heap.size := by
 obtain ⟨h1, h2, v, h3, h4⟩ := h
 rcases hk with rfl | ⟨u, hu, hk⟩
 ·exact qbb h3
 ·rw [h3] at hu
  injection hu with hu
  injection hu with hu
  injection hu with hu
  injection hu with hu
  subst hu
  obtain ⟨_, inner, ho, _⟩ := h4
  exact qdk ho k hk
theorem Acc.put {v v1 : Value} {w1 : World} (hB : Below w00.heap.size w00 w1) (h2 : w00.heap.size ≤ bo) (h3 : W.heap[bo]? = some (.cells #[v] t (0, 0))) (h4 : d.R e W w00.heap.size (fun _ => True) v l) (ht : ∀ q, q ∈ e :: d.E → q ≠ t)
  (hr : d.R e w1 w00.heap.size (fun _ => True) v1 l') (hg : W.grownBy w1 v.ownBlock) (hat : v1.ownBlock = v.ownBlock ∨ ∃ b, v1.ownBlock = some b ∧ W.heap.size ≤ b) :
  Acc d e t w00 bo l' (w1.setCell ⟨bo, 0, none⟩ v1) ∧ W.heap.size ≤ (w1.setCell ⟨bo, 0, none⟩ v1).heap.size ∧ (∀ k, k < W.heap.size → ¬ AccO t bo W k → (w1.setCell ⟨bo, 0, none⟩ v1).heap[k]? = W.heap[k]?) ∧ (∀ k, AccO t bo (w1.setCell ⟨bo, 0, none⟩ v1) k → AccO t bo W k ∨ W.heap.size ≤ k) := by
 have h5 : w1.heap[bo]? = some (.cells #[v] t (0, 0)) := qbo h3 hg (Kd.R_ne h4 h3 (ht e (by simp)))
 have h6 : (w1.setCell ⟨bo, 0, none⟩ v1).heap[bo]? = some (.cells #[v1] t (0, 0)) := qcc h5 0 _ rfl
 refine ⟨⟨qae hB h2, h2, v1, h6, Kd.R_set hr h5 ht 0 v1⟩, ?_, fun k hk no => ?_, fun k hk => ?_⟩
 ·have e1 := hg.size
  simpa [World.setCell] using e1
 ·have n1 : k ≠ bo := fun x => no (.inl x)
  have n2 : some k ≠ v.ownBlock := fun x => no (.inr ⟨v, h3, x.symm⟩)
  exact (Below.heap_setCell w1 ⟨bo, 0, none⟩ v1 k n1).trans (hg.block k hk n2)
 ·rcases hk with rfl | ⟨u, hu, hk⟩
  ·exact .inl (.inl rfl)
  ·rw [h6] at hu
   injection hu with hu
   injection hu with hu
   injection hu with hu
   injection hu with hu
   subst hu
   rcases hat with e1 | ⟨b, e1, hb⟩
   ·exact .inl (.inr ⟨v, h3, by rw [← e1]; exact hk⟩)
   ·rw [e1] at hk
    injection hk with hk
    exact .inr (by omega)
theorem Acc.same (h : Acc d e t w00 bo l W) : Acc d e t w00 bo l W ∧ W.heap.size ≤ W.heap.size ∧ (∀ k, k < W.heap.size → ¬ AccO t bo W k → W.heap[k]? = W.heap[k]?) ∧ (∀ k, AccO t bo W k → AccO t bo W k ∨ W.heap.size ≤ k) := ⟨h, Nat.le_refl _, fun _ _ _ => rfl, fun _ hk => .inl hk⟩
theorem Acc.start (d : Kd α) (e t : TypeId) (h : Below w00.heap.size w00 W) : Acc d e t w00 (W.heap.size + 1) [] ((W.alloc (.cells #[] e (0, 0))).alloc (.cells #[.slice (some ⟨W.heap.size, 0, none⟩) 0 0] t (0, 0))) := by
 have z := h.size
 refine ⟨qac (qac h _) _, by omega, .slice (some ⟨W.heap.size, 0, none⟩) 0 0, ?_, ?_⟩
 ·have q := qdi (W.alloc (.cells #[] e (0, 0))) (.cells #[.slice (some ⟨W.heap.size, 0, none⟩) 0 0] t (0, 0))
  simpa using q
 ·exact ⟨fun _ _ => trivial, [], (World.ownsRow_made W #[] 0 z (by simp) (by simp)).alloc _, Reps.none _ _⟩
end



-- NOT PRINTED: function 87 (impl_DependsOf_1)


/-! ### impl_compareDepends: function 119 -/
def impl_compareDepends.f (a0_0 : Int) (a0_1 : Int) (a1_0 : Int) (a1_1 : Int) : Option (Int) := if a0_0 = a1_0 then (some (wrap64 (a0_1 - a1_1))) else (some (wrap64 (a0_0 - a1_0)))
set_option maxHeartbeats 8000000 in
set_option maxRecDepth 100000 in
theorem impl_compareDepends.calls (a0_0 : Int) (a0_1 : Int) (a1_0 : Int) (a1_1 : Int) (r : Int) (w : World) (h : impl_compareDepends.f a0_0 a0_1 a1_0 a1_1 = some r) :
  Calls Try.prog 119 #[.agg #[.int .i64 a0_0, .int .i64 a0_1], .agg #[.int .i64 a1_0, .int .i64 a1_1]] w fun e w' => e = .returned (.int .i64 r) ∧ Below w.heap.size w w' := by
 have hu83 := Try.underlying83
 have HB := qad.mk (Below.refl w.heap.size w)
 have H : (if a0_0 = a1_0 then (some (wrap64 (a0_1 - a1_1))) else (some (wrap64 (a0_0 - a1_0)))) = some r := h
 clear h
 by_cases c3 : a0_0 = a1_0
 ·rw [if_pos c3] at H
  have c3b0 : (a0_0 == a1_0) = true := beq_iff_eq.mpr c3
  have c3b1 : (a0_0 != a1_0) = false := bne_eq_false_iff_eq.mpr c3
  clear c3
  obtain rfl := Option.some.inj H
  go_enter Try.func119, Try.ntmps119
  go_wp2_with (first | ((with_reducible refine qar (N := 2) rfl ?_); refine qaq ?hg (N := 2) ?hd (cs := #[.int .i64 a0_0, .int .i64 a0_1]) (t := 83) ?hr ?_; (case hd => rfl); (case hg => rfl); (case hr => first | (go_simp; done) | (go_simp; rfl)); intro gb334 hg w4 hbox hb; have n0_ := qad.mk (qak (by repeat (first | (with_reducible first | exact HB.out | apply qac | apply qaa | apply qab) | exact HB.out)) hb); have n1_ := qad.mk (hbox); have n2_ := qad.mk ((by rw [hg]; exact (qal (by repeat (first | (with_reducible first | exact HB.out | apply qac | apply qaa | apply qab) | exact HB.out))) : w.heap.size ≤ gb334)); have n3_ := qad.mk ((by rw [hg]; exact (qal (by repeat (first | (with_reducible first | exact HB.out | apply qac | apply qaa | apply qab) | exact HB.out))) : w.heap.size ≤ gb334)); clear HB; have HB := n0_; have BK334 := n1_; have GW334 := n2_; have GE334 := n3_; clear n0_ n1_ n2_ n3_; clear hb hbox hg) | ((with_reducible refine qar (N := 3) rfl ?_); refine qaq ?hg (N := 3) ?hd (cs := #[.int .i64 a1_0, .int .i64 a1_1]) (t := 83) ?hr ?_; (case hd => rfl); (case hg => rfl); (case hr => first | (go_simp; done) | (go_simp; rfl)); intro gb335 hg w5 hbox hb; have n0_ := qad.mk (qam (g := gb334) (o := .cells #[.int .i64 a0_0, .int .i64 a0_1] 83 (0, 0)) (by (with_reducible repeat (first | refine qai ?_ _ | refine qaj ?_ | refine qah ?_ _)); exact BK334.out) hb); have n1_ := qad.mk (qak (by repeat (first | (with_reducible first | exact HB.out | apply qac | apply qaa | apply qab | refine qae ?_ GE334.out) | exact HB.out)) hb); have n2_ := qad.mk (hbox); have n3_ := qad.mk ((by rw [hg]; exact (qal (by repeat (first | (with_reducible first | exact HB.out | apply qac | apply qaa | apply qab | refine qae ?_ GE334.out) | exact HB.out))) : w.heap.size ≤ gb335)); have n4_ := qad.mk ((by rw [hg]; exact (qal (by repeat (first | (with_reducible first | exact HB.out | apply qac | apply qaa | apply qab | refine qae ?_ GE334.out) | exact HB.out))) : w.heap.size ≤ gb335)); have n5_ := qad.mk ((by rw [hg]; exact Nat.ne_of_lt (qbb (g := gb334) (o := .cells #[.int .i64 a0_0, .int .i64 a0_1] 83 (0, 0)) (by (with_reducible repeat (first | refine qai ?_ _ | refine qaj ?_ | refine qah ?_ _)); exact BK334.out)) : gb334 ≠ gb335)); have n6_ := qad.mk ((by rw [hg]; exact Nat.ne_of_gt (qbb (g := gb334) (o := .cells #[.int .i64 a0_0, .int .i64 a0_1] 83 (0, 0)) (by (with_reducible repeat (first | refine qai ?_ _ | refine qaj ?_ | refine qah ?_ _)); exact BK334.out)) : gb335 ≠ gb334)); clear BK334; clear HB; have BK334 := n0_; have HB := n1_; have BK335 := n2_; have GW335 := n3_; have GE335 := n4_; have NB334_335 := n5_; have NB335_334 := n6_; clear n0_ n1_ n2_ n3_ n4_ n5_ n6_; clear hb hbox hg; have hnb6 := NB334_335.out; have hnc6 := NB335_334.out; have hcz7_0 : w5.cell? ⟨gb334, 0, none⟩ = some (.int .i64 a0_0) := (qag BK334.out 0).trans rfl; have hcz7_1 : w5.cell? ⟨gb334, 1, none⟩ = some (.int .i64 a0_1) := (qag BK334.out 1).trans rfl; have hfz7_0 := qaf BK334.out 0; have hfz7_1 := qaf BK334.out 1; have hcz8_0 : w5.cell? ⟨gb335, 0, none⟩ = some (.int .i64 a1_0) := (qag BK335.out 0).trans rfl; have hcz8_1 : w5.cell? ⟨gb335, 1, none⟩ = some (.int .i64 a1_1) := (qag BK335.out 1).trans rfl; have hfz8_0 := qaf BK335.out 0; have hfz8_1 := qaf BK335.out 1))
  go_ret
  exact ⟨by first | rfl | (simp [errW_none, errW_some] <;> rfl) | (simp [*, errW_none, errW_some] <;> rfl), by repeat (first | (with_reducible first | exact HB.out | apply qac | apply qaa | apply qab | refine qae ?_ GE334.out | refine qae ?_ GE335.out) | exact HB.out)⟩
 ·rw [if_neg c3] at H
  have c3b0 : (a0_0 == a1_0) = false := beq_eq_false_iff_ne.mpr c3
  have c3b1 : (a0_0 != a1_0) = true := bne_iff_ne.mpr c3
  obtain rfl := Option.some.inj H
  go_enter Try.func119, Try.ntmps119
  go_wp2_with (first | ((with_reducible refine qar (N := 2) rfl ?_); refine qaq ?hg (N := 2) ?hd (cs := #[.int .i64 a0_0, .int .i64 a0_1]) (t := 83) ?hr ?_; (case hd => rfl); (case hg => rfl); (case hr => first | (go_simp; done) | (go_simp; rfl)); intro gb334 hg w9 hbox hb; have n0_ := qad.mk (qak (by repeat (first | (with_reducible first | exact HB.out | apply qac | apply qaa | apply qab) | exact HB.out)) hb); have n1_ := qad.mk (hbox); have n2_ := qad.mk ((by rw [hg]; exact (qal (by repeat (first | (with_reducible first | exact HB.out | apply qac | apply qaa | apply qab) | exact HB.out))) : w.heap.size ≤ gb334)); have n3_ := qad.mk ((by rw [hg]; exact (qal (by repeat (first | (with_reducible first | exact HB.out | apply qac | apply qaa | apply qab) | exact HB.out))) : w.heap.size ≤ gb334)); clear HB; have HB := n0_; have BK334 := n1_; have GW334 := n2_; have GE334 := n3_; clear n0_ n1_ n2_ n3_; clear hb hbox hg) | ((with_reducible refine qar (N := 3) rfl ?_); refine qaq ?hg (N := 3) ?hd (cs := #[.int .i64 a1_0, .int .i64 a1_1]) (t := 83) ?hr ?_; (case hd => rfl); (case hg => rfl); (case hr => first | (go_simp; done) | (go_simp; rfl)); intro gb335 hg w10 hbox hb; have n0_ := qad.mk (qam (g := gb334) (o := .cells #[.int .i64 a0_0, .int .i64 a0_1] 83 (0, 0)) (by (with_reducible repeat (first | refine qai ?_ _ | refine qaj ?_ | refine qah ?_ _)); exact BK334.out) hb); have n1_ := qad.mk (qak (by repeat (first | (with_reducible first | exact HB.out | apply qac | apply qaa | apply qab | refine qae ?_ GE334.out) | exact HB.out)) hb); have n2_ := qad.mk (hbox); have n3_ := qad.mk ((by rw [hg]; exact (qal (by repeat (first | (with_reducible first | exact HB.out | apply qac | apply qaa | apply qab | refine qae ?_ GE334.out) | exact HB.out))) : w.heap.size ≤ gb335)); have n4_ := qad.mk ((by rw [hg]; exact (qal (by repeat (first | (with_reducible first | exact HB.out | apply qac | apply qaa | apply qab | refine qae ?_ GE334.out) | exact HB.out))) : w.heap.size ≤ gb335)); have n5_ := qad.mk ((by rw [hg]; exact Nat.ne_of_lt (qbb (g := gb334) (o := .cells #[.int .i64 a0_0, .int .i64 a0_1] 83 (0, 0)) (by (with_reducible repeat (first | refine qai ?_ _ | refine qaj ?_ | refine qah ?_ _)); exact BK334.out)) : gb334 ≠ gb335)); have n6_ := qad.mk ((by rw [hg]; exact Nat.ne_of_gt (qbb (g := gb334) (o := .cells #[.int .i64 a0_0, .int .i64 a0_1] 83 (0, 0)) (by (with_reducible repeat (first | refine qai ?_ _ | refine qaj ?_ | refine qah ?_ _)); exact BK334.out)) : gb335 ≠ gb334)); clear BK334; clear HB; have BK334 := n0_; have HB := n1_; have BK335 := n2_; have GW335 := n3_; have GE335 := n4_; have NB334_335 := n5_; have NB335_334 := n6_; clear n0_ n1_ n2_ n3_ n4_ n5_ n6_; clear hb hbox hg; have hnb11 := NB334_335.out; have hnc11 := NB335_334.out; have hcz12_0 : w10.cell? ⟨gb334, 0, none⟩ = some (.int .i64 a0_0) := (qag BK334.out 0).trans rfl; have hcz12_1 : w10.cell? ⟨gb334, 1, none⟩ = some (.int .i64 a0_1) := (qag BK334.out 1).trans rfl; have hfz12_0 := qaf BK334.out 0; have hfz12_1 := qaf BK334.out 1; have hcz13_0 : w10.cell? ⟨gb335, 0, none⟩ = some (.int .i64 a1_0) := (qag BK335.out 0).trans rfl; have hcz13_1 : w10.cell? ⟨gb335, 1, none⟩ = some (.int .i64 a1_1) := (qag BK335.out 1).trans rfl; have hfz13_0 := qaf BK335.out 0; have hfz13_1 := qaf BK335.out 1))
  go_ret
  exact ⟨by first | rfl | (simp [errW_none, errW_some] <;> rfl) | (simp [*, errW_none, errW_some] <;> rfl), by repeat (first | (with_reducible first | exact HB.out | apply qac | apply qaa | apply qab | refine qae ?_ GE334.out | refine qae ?_ GE335.out) | exact HB.out)⟩


-- NOT PRINTED: function 135 (impl_Depend_135)


-- NOT PRINTED: function 136 (impl_Depend_136)


/-! ### impl_arranged: function 88 (by hand) -/
instance : Inhabited S83 := ⟨z83⟩
instance : DecidableEq S83 := fun a b => if h : a.f0 = b.f0 ∧ a.f1 = b.f1 then .isTrue (by cases a; cases b; simp_all) else .isFalse (fun e => h (by rw [e]; exact ⟨rfl, rfl⟩))
def depC (a : S83) : List Value := [.int .i64 a.f0, .int .i64 a.f1]
/-- between 0 and 127, both -/
def depIn (a : S83) : Bool := decide (0 ≤ a.f0 ∧ a.f0 ≤ 127 ∧ 0 ≤ a.f1 ∧ a.f1 ≤ 127)
def depLe (a b : S83) : Bool := decide (a.f0 < b.f0 ∨ (a.f0 = b.f0 ∧ a.f1 ≤ b.f1))
def impl_arranged.f (l : List S83) : Option (List S83) := if l.all depIn = true then (if l.length ≤ 100000000 then some (Lib.compact (l.mergeSort depLe)) else none) else none
theorem dep_flat : ∀ (xs : List S83) (inner : List Value), Reps (fun p c => c = depC p) 2 xs inner → inner = xs.flatMap depC
 | [], inner, h => by
  have := h.1
  exact List.eq_nil_of_length_eq_zero (by simpa using this)
 | x :: xs, inner, h => by
  have h0 := h.2 0 x rfl
  simp only [Nat.zero_mul, List.drop_zero] at h0
  have ih := dep_flat xs (inner.drop 2) ⟨by have := h.1; rw [List.length_drop, this, List.length_cons, Nat.succ_mul]; omega, fun j p hj => by
   have q := h.2 (j + 1) p (by simpa using hj)
   rw [List.drop_drop]
   rw [show 2 + j * 2 = (j + 1) * 2 by omega]
   exact q⟩
  rw [List.flatMap_cons, ← ih, ← h0, List.take_append_drop]
theorem dep_reps : ∀ (xs : List S83), Reps (fun p c => c = depC p) 2 xs (xs.flatMap depC)
 | [] => Reps.none _ _
 | x :: xs => by
  have ih := dep_reps xs
  refine ⟨by rw [List.flatMap_cons, List.length_append, ih.1, List.length_cons, Nat.succ_mul]; simp [depC]; omega, fun j p hj => ?_⟩
  cases j with
  | zero =>
   have e : x = p := by simpa using hj
   subst e
   simp [List.flatMap_cons, depC]
  | succ j =>
   have q := ih.2 j p (by simpa using hj)
   rw [List.flatMap_cons, show (j + 1) * 2 = 2 + j * 2 by omega, ← List.drop_drop]
   simpa [depC] using q
theorem dep_own {w : World} {base : Nat} {ok : Nat → Prop} {v : Value} {xs : List S83} (h : Kd.R k83 83 w base ok v xs) : w.ownsRow base 83 2 v xs.length (xs.flatMap depC) := by
 obtain ⟨_, inner, ho, hr⟩ := h
 have e := dep_flat xs inner (hr.imp_ (fun p c hp => k83_openM hp))
 subst e
 exact ho
theorem dep_R {w : World} {base : Nat} {v : Value} {xs : List S83} (h : w.ownsRow base 83 2 v xs.length (xs.flatMap depC)) : Kd.R k83 83 w base (fun _ => True) v xs :=
 ⟨fun _ _ => trivial, _, h, (dep_reps xs).imp_ (fun p c hp => by subst hp; exact k83_mkM _ _ _ p)⟩
/-- the model's == of two dependencies -/
theorem depEq (a b : S83) (w : World) : Sem.run Try.prog (binOp .eql 83 (.agg #[.int .i64 a.f0, .int .i64 a.f1]) (.agg #[.int .i64 b.f0, .int .i64 b.f1])) w = .ok (.bool (decide (a = b))) w := by
 have u3 := Try.underlying3
 have a3 := Try.isAgg3
 have z3 := Try.sizeOf3
 have hS : Try.prog.underlying 83 = some (.struct (Try.prog.fieldsOf 83)) := by kernel_rfl
 have hp : Try.prog.stoodInHeld 83 = false := by kernel_rfl
 have e : decide (a = b) = (decide (a.f0 = b.f0) && decide (a.f1 = b.f1)) := by
  cases a; cases b; simp
 rw [e, run_eql_struct, show (10000 : Nat) = 9999 + 1 from rfl, run_equalIn_agg w 9999 83 _ _ hS hp]
 simp only [Program.fieldsOf, Try.underlying83]
 go_simp
 by_cases h1 : a.f0 = b.f0 <;> by_cases h2 : a.f1 = b.f1 <;> simp [h1, h2]
theorem depNe (a b : S83) (w : World) : Sem.run Try.prog (binOp .neq 83 (.agg #[.int .i64 a.f0, .int .i64 a.f1]) (.agg #[.int .i64 b.f0, .int .i64 b.f1])) w = .ok (.bool (!decide (a = b))) w := by
 have u3 := Try.underlying3
 have a3 := Try.isAgg3
 have z3 := Try.sizeOf3
 have hS : Try.prog.underlying 83 = some (.struct (Try.prog.fieldsOf 83)) := by kernel_rfl
 have hp : Try.prog.stoodInHeld 83 = false := by kernel_rfl
 have e : decide (a = b) = (decide (a.f0 = b.f0) && decide (a.f1 = b.f1)) := by
  cases a; cases b; simp
 rw [e, run_neq_struct, show (10000 : Nat) = 9999 + 1 from rfl, run_equalIn_agg w 9999 83 _ _ hS hp]
 simp only [Program.fieldsOf, Try.underlying83]
 go_simp
 by_cases h1 : a.f0 = b.f0 <;> by_cases h2 : a.f1 = b.f1 <;> simp [h1, h2]
theorem dep_cell {w : World} {base g n c : Nat} {xs : List S83} (own : w.ownsRow base 83 2 (.slice (some ⟨g, 0, none⟩) n c) n (xs.flatMap depC)) (hn : n = xs.length) (k : Nat) (hk : k < xs.length) :
  (w.cell? ⟨g, k * 2, none⟩ = some (.int .i64 xs[k]!.f0) ∧ w.cell? ⟨g, k * 2 + 1, none⟩ = some (.int .i64 xs[k]!.f1)) ∧ w.frozen? ⟨g, k * 2, none⟩ = false ∧ w.frozen? ⟨g, k * 2 + 1, none⟩ = false := by
 obtain ⟨hH, _, _⟩ := Srt.holds_of_own own (by omega)
 have hl := Srt.flat_len depC 2 (fun _ => rfl) xs
 have h0 := hH (k * 2) (by simp [hl]; omega)
 have h1 := hH (k * 2 + 1) (by simp [hl]; omega)
 have e0 := Srt.flat_get depC 2 (fun _ => rfl) (by omega) xs (k * 2) (by omega)
 have e1 := Srt.flat_get depC 2 (fun _ => rfl) (by omega) xs (k * 2 + 1) (by omega)
 rw [show k * 2 / 2 = k by omega, show k * 2 % 2 = 0 by omega] at e0
 rw [show (k * 2 + 1) / 2 = k by omega, show (k * 2 + 1) % 2 = 1 by omega] at e1
 rw [show (xs.flatMap depC).toArray[k * 2]! = (xs.flatMap depC)[k * 2]! by simp, e0, Nat.zero_add] at h0
 rw [show (xs.flatMap depC).toArray[k * 2 + 1]! = (xs.flatMap depC)[k * 2 + 1]! by simp, e1, Nat.zero_add] at h1
 exact ⟨⟨h0.1, h1.1⟩, h0.2, h1.2⟩
theorem depKeeps_no {xs : List S83} {k : Nat} (h0 : 0 < k) (h : xs[k]! = xs[k - 1]!) : Lib.keeps xs.toArray k = false := by
 unfold Lib.keeps
 rw [show xs.toArray[k]! = xs[k]! by simp, show xs.toArray[k - 1]! = xs[k - 1]! by simp]
 exact decide_eq_false (by rw [h]; simp; omega)
theorem depKeeps_yes {xs : List S83} {k : Nat} (h : xs[k]! ≠ xs[k - 1]!) : Lib.keeps xs.toArray k = true := by
 unfold Lib.keeps
 rw [show xs.toArray[k]! = xs[k]! by simp, show xs.toArray[k - 1]! = xs[k - 1]! by simp]
 exact decide_eq_true (.inr h)
theorem depZeros (n : Nat) : (Builtin.zeroCells (Value.agg #[.int .i64 0, .int .i64 0]).cells n).toList.length = n * 2 ∧ ∀ v ∈ (Builtin.zeroCells (Value.agg #[.int .i64 0, .int .i64 0]).cells n).toList, v.oneCell' = true := by
 unfold Builtin.zeroCells
 refine ⟨by simp [Value.cells], fun v hv => ?_⟩
 simp only [Value.cells, Array.toList_map, List.mem_map] at hv
 obtain ⟨i, _, rfl⟩ := hv
 have h2 : i % 2 = 0 ∨ i % 2 = 1 := by omega
 show (#[Value.int .i64 0, Value.int .i64 0][i % 2]!).oneCell' = true
 rcases h2 with h | h <;> rw [h] <;> rfl
theorem depClear {P : Program} (w : World) (t e ty : TypeId) (z : Value) (ht : P.underlying t = some (.slice e)) (hv : ∀ w, (zeroValue e).run P w = .ok z w) (b o n c : Nat) (hn : 0 < n)
  (h1 : ∀ v ∈ (Builtin.zeroCells z.cells n).toList, v.oneCell' = true) (hc : ∀ j, j < (Builtin.zeroCells z.cells n).toList.length → (w.cell? ⟨b, o + j, none⟩).isSome = true ∧ w.frozen? ⟨b, o + j, none⟩ = false) :
  (Builtin.clear_ #[t] ty #[.slice (some ⟨b, o, none⟩) n c]).run P w = .ok (.tuple #[]) (w.setCells b o (Builtin.zeroCells z.cells n).toList) := by
 have hst := run_storeCells_cells (P := P) b o (Builtin.zeroCells z.cells n).toList 0 w (fun j hj => (hc j hj).1) (fun j hj => (hc j hj).2) h1
 simp only [Nat.add_zero] at hst
 obtain ⟨m, rfl⟩ : ∃ m, n = m + 1 := ⟨n - 1, by omega⟩
 simp [Builtin.clear_, run_underlying ht, hv, hst]
set_option maxHeartbeats 4000000 in
set_option maxRecDepth 1000000 in
/-- slices.Compact at dependencies: each run of equal ones once -/
theorem depCompact (g c : Nat) (xs : List S83) (w00 w : World) (hB : Below w00.heap.size w00 w) (hO : Kd.R k83 83 w w00.heap.size (fun _ => True) (.slice (some ⟨g, 0, none⟩) xs.length c) xs) :
  Calls Try.prog 136 #[.slice (some ⟨g, 0, none⟩) xs.length c] w fun e w' => e = .returned (.slice (some ⟨g, 0, none⟩) (Lib.compact xs).length c) ∧ Kd.R k83 83 w' w00.heap.size (fun _ => True) (.slice (some ⟨g, 0, none⟩) (Lib.compact xs).length c) (Lib.compact xs) ∧ Below w00.heap.size w00 w' := by
 have hu1 := Try.underlying83
 have hxl : xs.length ≤ 9223372036854775807 := (Kd.qaw hO).2.2.2.1
 have hxc : xs.length ≤ c := (Kd.qaw hO).2.1
 have HB := qad.mk hB
 have HO := qad.mk hO
 clear hB hO
 by_cases h2 : xs.length < 2
 ·have hall : Lib.compact xs = xs := Lib.compact_all xs (fun j hj => Lib.keeps_lt_one _ j (by omega))
  rw [hall]
  clear hall
  go_enter Try.func136, Try.ntmps136
  go_wp2
  go_ret
  exact ⟨rfl, HO.out, HB.out⟩
 ·go_enter Try.func136, Try.ntmps136
  go_wp2
  go_loopg [3] xs.length (fun kq s3 wr => ∃ k : Nat, 1 ≤ k ∧ k ≤ xs.length ∧ xs.length - k ≤ kq ∧ s3 = .int .i64 (k : Int) ∧ qad (Kd.R k83 83 wr w00.heap.size (fun _ => True) (.slice (some ⟨g, 0, none⟩) xs.length c) xs) ∧ qad (Below w00.heap.size w00 wr) ∧ qad (∀ j, j < k → Lib.keeps xs.toArray j = true))
  case atStart => exact ⟨1, Nat.le_refl _, by omega, by omega, rfl, HO, HB, ⟨Lib.keeps_lt_one _⟩⟩
  case round =>
   clear HO HB
   obtain ⟨k, hk1, hk, hgk, rfl, HO, HB, HA⟩ := hrel
   by_cases hlt : k < xs.length
   ·have hltz : (k : Int) < (xs.length : Int) := by omega
    have own := dep_own HO.out
    obtain ⟨⟨c0, c1⟩, _⟩ := dep_cell own rfl k hlt
    obtain ⟨⟨c2, c3⟩, _⟩ := dep_cell own rfl (k - 1) (by omega)
    have HX := qad.mk own
    clear own
    have p1 : (0 : Int) ≤ (k : Int) := by omega
    have p2 : (0 : Int) ≤ ((k - 1 : Nat) : Int) := by omega
    have p3 : ((k - 1 : Nat) : Int) < (xs.length : Int) := by omega
    have HW : qad (IntKind.i64.wrap ((k : Int) - 1) = ((k - 1 : Nat) : Int)) := ⟨(i64_w _).trans (by unfold wrap64; omega)⟩
    generalize hx : xs[k]! = x at c0 c1
    generalize hy : xs[k - 1]! = y at c2 c3
    have HXY : qad (xs[k]! = x ∧ xs[k - 1]! = y) := ⟨hx, hy⟩
    clear hx hy
    have heq := depEq x y
    have hw1 := HW.out
    go_wp2_with (fail)
    go_quiet (fail)
    have HO2 := qad.mk (Kd.qao HO.out nq)
    have HB2 := qad.mk (qaa HB.out nq)
    clear hw1 HW heq c0 c1 c2 c3 HX HO HB
    generalize wr.drewN nq = wr2 at HO2 HB2 ⊢
    by_cases q : x = y
    ·have q1 : decide (x = y) = true := decide_eq_true q
     have HI : qad (Lib.CompInv xs.toArray (k + 1) k xs.toArray) := ⟨Lib.CompInv.start HA.out (depKeeps_no (by omega) (by rw [HXY.out.1, HXY.out.2, q]))⟩
     rw [q1]
     clear q q1 HXY HA
     have p4 : ¬ c = k := by omega
     have p5 : ¬ c - k = 0 := by omega
     go_wp2
     go_loopg [3, 5] xs.length (fun kq s3 s5 wq => ∃ (kk k2 : Nat) (dk : List S83), s3 = .int .i64 (kk : Int) ∧ s5 = .int .i64 (k2 : Int) ∧ 1 ≤ k2 ∧ k + k2 ≤ xs.length ∧ xs.length - (k + k2) ≤ kq ∧ dk.length = xs.length ∧ qad (Kd.R k83 83 wq w00.heap.size (fun _ => True) (.slice (some ⟨g, 0, none⟩) dk.length c) dk) ∧ qad (Below w00.heap.size w00 wq) ∧ qad (Lib.CompInv xs.toArray (k + k2) kk dk.toArray))
     case atStart => exact ⟨k, 1, xs, rfl, rfl, Nat.le_refl _, by omega, by omega, rfl, HO2, HB2, HI⟩
     case round =>
      clear HO2 HB2 HI
      obtain ⟨kk, k2, dk, rfl, rfl, h1, hle, hg2, hdl, HO, HB, HI⟩ := hrel
      have hkk := HI.out.lt
      have HDL := qad.mk hdl
      have own := qad.mk (dep_own HO.out)
      by_cases hlt2 : k + k2 < xs.length
      ·have hltz2 : (k2 : Int) < ((xs.length - k : Nat) : Int) := by omega
       have hltz3 : decide (k2 < xs.length - k) = true := decide_eq_true (by omega)
       obtain ⟨⟨c0, c1⟩, _⟩ := dep_cell own.out rfl (k + k2) (by omega)
       obtain ⟨⟨c2, c3⟩, _⟩ := dep_cell own.out rfl (k + k2 - 1) (by omega)
       have hh1 := HI.out.high (k + k2) (by omega)
       have hh2 := HI.out.high (k + k2 - 1) (by omega)
       rw [show dk.toArray[k + k2]! = dk[k + k2]! by simp, show xs.toArray[k + k2]! = xs[k + k2]! by simp] at hh1
       rw [show dk.toArray[k + k2 - 1]! = dk[k + k2 - 1]! by simp, show xs.toArray[k + k2 - 1]! = xs[k + k2 - 1]! by simp] at hh2
       rw [hh1, show (k + k2) * 2 = k * 2 + k2 * 2 by omega] at c0 c1
       rw [hh2, show (k + k2 - 1) * 2 = k * 2 + (k2 - 1) * 2 by omega] at c2 c3
       clear hh1 hh2 hdl
       have p1 : (0 : Int) ≤ (k2 : Int) := by omega
       have p2 : (0 : Int) ≤ ((k2 - 1 : Nat) : Int) := by omega
       have p3 : ((k2 - 1 : Nat) : Int) < ((xs.length - k : Nat) : Int) := by omega
       have HW : qad (IntKind.i64.wrap ((k2 : Int) - 1) = ((k2 - 1 : Nat) : Int)) := ⟨(i64_w _).trans (by unfold wrap64; omega)⟩
       generalize hx : xs[k + k2]! = u at c0 c1
       generalize hy : xs[k + k2 - 1]! = v at c2 c3
       have HXY : qad (xs[k + k2]! = u ∧ xs[k + k2 - 1]! = v) := ⟨hx, hy⟩
       clear hx hy
       have heq := depNe u v
       have hw1 := HW.out
       go_wp2_with (fail)
       go_quiet (fail)
       have HO2 := qad.mk (Kd.qao HO.out nq)
       have HB2 := qad.mk (qaa HB.out nq)
       have e0 : (wr.drewN nq).cell? ⟨g, k * 2 + k2 * 2, none⟩ = some (.int .i64 u.f0) := c0
       have e1 : (wr.drewN nq).cell? ⟨g, k * 2 + k2 * 2 + 1, none⟩ = some (.int .i64 u.f1) := c1
       clear hw1 HW heq c0 c1 c2 c3 HO HB own
       generalize wr.drewN nq = wr3 at HO2 HB2 e0 e1 ⊢
       by_cases huv : u = v
       ·have q1 : decide (u = v) = true := decide_eq_true huv
        have HI2 : qad (Lib.CompInv xs.toArray (k + (k2 + 1)) kk dk.toArray) := ⟨HI.out.skip (depKeeps_no (by omega) (by rw [HXY.out.1, HXY.out.2, huv]))⟩
        rw [q1]
        clear q1 huv HXY HI e0 e1
        go_wp2
        go_roundg (xs.length - (k + (k2 + 1)))
        case measure => omega
        case rel => exact ⟨kk, k2 + 1, dk, rfl, by go_num, by omega, by omega, Nat.le_refl _, HDL.out, HO2, HB2, HI2⟩
       ·have q1 : decide (u = v) = false := decide_eq_false huv
        have HI2 : qad (Lib.CompInv xs.toArray (k + (k2 + 1)) (kk + 1) (dk.set kk u).toArray) := ⟨by
         have z := HI.out.keep (by simpa using hlt2) (depKeeps_yes (by rw [HXY.out.1, HXY.out.2]; exact huv))
         rw [show xs.toArray[k + k2]! = xs[k + k2]! by simp, HXY.out.1] at z
         rw [show k + (k2 + 1) = k + k2 + 1 by omega]
         simpa using z⟩
        have hkl : kk < dk.length := by rw [HDL.out]; omega
        obtain ⟨⟨o0, o1⟩, f0, f1⟩ := dep_cell (dep_own HO2.out) rfl kk hkl
        have p6 : (0 : Int) ≤ (kk : Int) := by omega
        have p7 : (kk : Int) < (xs.length : Int) := by rw [HDL.out] at hkl; omega
        have p8 : (k2 : Int) < ((xs.length - k : Nat) : Int) := by omega
        generalize dk[kk]! = od at o0 o1
        have OC : qad (∀ j q, [Value.int .i64 od.f0, Value.int .i64 od.f1][j]? = some q → wr3.cell? ⟨g, ((kk : Int)).toNat * k83.sz + j, none⟩ = some q) := ⟨by
         intro j q hj
         have e : ((kk : Int)).toNat * k83.sz = kk * 2 := by rw [Int.toNat_natCast]; rfl
         rw [e]
         match j, hj with
         | 0, hj => simp at hj; subst hj; exact o0
         | 1, hj => simp at hj; subst hj; exact o1
         | j + 2, hj => simp at hj⟩
        rw [q1]
        clear q1 huv HXY HI hkl o0 o1 f0 f1
        go_wp2_with ((with_reducible refine qci (p := 51) rfl ?_); refine Kd.qdj k83 (w0 := w00) w00.heap.size rfl rfl 83 (.tmp 51) (.tmp 50) rfl 83 (kk : Int) 0 dk u (.agg #[.int .i64 u.f0, .int .i64 u.f1]) [.int .i64 u.f0, .int .i64 u.f1] [.int .i64 od.f0, .int .i64 od.f1] (fun _ => True) (fun _ => False) rfl ?aA rfl rfl (by kernel_rfl) ?a1 HO2.out p6 ?aL rfl ?aC (Nat.le_refl 2) ?aM (fun _ hk => hk.elim) HB2.out ?_; (case aA => simp; rfl); (case a1 => intro q hq; simp at hq; rcases hq with rfl | rfl <;> rfl); (case aL => rw [HDL.out]; exact p7); (case aC => exact OC.out); (case aM => exact k83_mkM _ _ _ u); intro w1 ho hb hg; have HO3 := qad.mk ho; have HB3 := qad.mk hb; clear ho hb hg HO2 HB2 e0 e1)
        go_roundg (xs.length - (k + (k2 + 1)))
        case measure => omega
        case rel => exact ⟨kk + 1, k2 + 1, dk.set kk u, by go_num, by go_num, by omega, by omega, Nat.le_refl _, by rw [List.length_set]; exact HDL.out, ⟨by have z := HO3.out; simpa using z⟩, HB3, HI2⟩
      ·have hltz2 : ¬ (k2 : Int) < ((xs.length - k : Nat) : Int) := by omega
       have hltz3 : decide (k2 < xs.length - k) = false := decide_eq_false (by omega)
       have hend : k + k2 = xs.length := by omega
       have hcl : ∀ ty, (Builtin.clear_ #[48] ty #[.slice (some ⟨g, kk * 2, none⟩) (xs.length - kk) (c - kk)]).run Try.prog wr = .ok (.tuple #[]) (wr.setCells g (kk * 2) (Builtin.zeroCells (Value.agg #[.int .i64 0, .int .i64 0]).cells (xs.length - kk)).toList) := by
        intro ty
        refine depClear wr _ _ ty _ Try.underlying48 Try.zeroValue83 g (kk * 2) _ _ (by omega) (depZeros _).2 ?_
        intro j hj
        rw [(depZeros _).1] at hj
        have hkl : kk + j / 2 < dk.length := by omega
        obtain ⟨⟨o0, o1⟩, f0, f1⟩ := dep_cell own.out rfl (kk + j / 2) hkl
        rcases Nat.mod_two_eq_zero_or_one j with r | r
        ·rw [show kk * 2 + j = (kk + j / 2) * 2 by omega]
         exact ⟨by rw [o0]; rfl, f0⟩
        ·rw [show kk * 2 + j = (kk + j / 2) * 2 + 1 by omega]
         exact ⟨by rw [o1]; rfl, f1⟩
       have HI2 := HI.out
       rw [hend] at HI2
       have hlen : (Lib.compact xs).length = kk := HI2.len
       have hdk : Lib.compact xs = dk.take kk := by
        apply List.ext_getElem?
        intro j
        by_cases hj : j < kk
        ·have z := HI2.low j hj
         have z2 : (Lib.compact xs)[j]? = some dk.toArray[j]! := z
         rw [z2, List.getElem?_take, if_pos hj, List.getElem?_eq_getElem (by omega)]
         simp [show j < dk.length by omega]
        ·rw [List.getElem?_eq_none (by omega), List.getElem?_eq_none (by rw [List.length_take]; omega)]
       have own2 : wr.ownsRow w00.heap.size 83 2 (.slice (some ⟨g, 0, none⟩) kk c) kk ((Lib.compact xs).flatMap depC) := by
        have z := Srt.own_cut own.out (m := kk) (by omega) (by omega)
        have e : (dk.flatMap depC).take (kk * 2) = (Lib.compact xs).flatMap depC := by
         rw [hdk]
         have e2 := List.take_append_drop kk dk
         conv => lhs; rw [← e2, List.flatMap_append]
         exact List.take_left' (by rw [Srt.flat_len depC 2 (fun _ => rfl), List.length_take, Nat.min_eq_left (by omega)])
        rw [e] at z
        exact z
       have own3 := qad.mk (Srt.own_beyonds (Builtin.zeroCells (Value.agg #[.int .i64 0, .int .i64 0]).cells (xs.length - kk)).toList wr (kk * 2) own2 (Nat.le_refl _))
       have HB3 := qad.mk (Srt.below_cells (Kd.qbk HO.out g (by simp [Value.ownBlock])) (Builtin.zeroCells (Value.agg #[.int .i64 0, .int .i64 0]).cells (xs.length - kk)).toList wr (kk * 2) HB.out)
       have HLN := qad.mk hlen
       have hc2 := hcl
       have p6 : ¬ c = kk := by omega
       have p7 : (0 : Int) ≤ (kk : Int) := by omega
       have p8 : kk ≤ xs.length := by omega
       clear hcl HI HI2 hlen hdk own2 own HO HB hdl
       go_wp2
       go_ret
       rw [HLN.out]
       refine ⟨rfl, dep_R (by rw [HLN.out]; exact own3.out), HB3.out⟩
    ·have q1 : decide (x = y) = false := decide_eq_false q
     have HA2 : qad (∀ j, j < k + 1 → Lib.keeps xs.toArray j = true) := ⟨fun j hj => by
      by_cases e : j = k
      ·subst e
       exact depKeeps_yes (by rw [HXY.out.1, HXY.out.2]; exact q)
      ·exact HA.out j (by omega)⟩
     rw [q1]
     clear q q1 HXY HA
     go_wp2
     go_roundg (xs.length - (k + 1))
     case measure => omega
     case rel => exact ⟨k + 1, by omega, by omega, Nat.le_refl _, by go_num, HO2, HB2, HA2⟩
   ·have hltz : ¬ (k : Int) < (xs.length : Int) := by omega
    have HL : qad (Lib.compact xs = xs) := ⟨Lib.compact_all xs (fun j hj => HA.out j (by omega))⟩
    go_wp2
    go_ret
    rw [HL.out]
    exact ⟨rfl, HO.out, HB.out⟩
/-- dependencies between 0 and 127 -/
def DepB : Type := { p : S83 // depIn p = true }
instance : Inhabited DepB := ⟨⟨z83, by decide⟩⟩
def depCB (a : DepB) : List Value := depC a.1
def depCf (a b : DepB) : Int := if a.1.f0 = b.1.f0 then a.1.f1 - b.1.f1 else a.1.f0 - b.1.f0
theorem depB_bd (a : DepB) : 0 ≤ a.1.f0 ∧ a.1.f0 ≤ 127 ∧ 0 ≤ a.1.f1 ∧ a.1.f1 ≤ 127 := of_decide_eq_true a.2
theorem depLt (a b : DepB) : Go.Proofs.ltOf depCf a b = decide (a.1.f0 < b.1.f0 ∨ (a.1.f0 = b.1.f0 ∧ a.1.f1 < b.1.f1)) := by
 unfold Go.Proofs.ltOf depCf
 split <;> (congr 1; apply propext; omega)
theorem depSWO : Go.Sort.SWO (Go.Proofs.ltOf depCf) where
 irrefl x := by rw [depLt]; simp
 trans x y z h1 h2 := by rw [depLt] at *; simp only [decide_eq_true_eq] at *; omega
 ntrans x y z h1 h2 := by rw [depLt] at *; simp only [decide_eq_false_iff_not] at *; omega
theorem depTot (x y : DepB) (h1 : Go.Proofs.ltOf depCf x y = false) (h2 : Go.Proofs.ltOf depCf y x = false) : x = y := by
 rw [depLt] at h1 h2
 simp only [decide_eq_false_iff_not] at h1 h2
 have e0 : x.1.f0 = y.1.f0 := by omega
 have e1 : x.1.f1 = y.1.f1 := by omega
 have e : x.1 = y.1 := by
  cases hx : x.1; cases hy : y.1
  rw [hx, hy] at e0 e1
  simp only at e0 e1
  rw [e0, e1]
 exact Subtype.ext e
theorem depLeB (x y : DepB) : (!Go.Proofs.ltOf depCf y x) = depLe x.1 y.1 := by
 rw [depLt]
 unfold depLe
 by_cases h : y.1.f0 < x.1.f0 ∨ (y.1.f0 = x.1.f0 ∧ y.1.f1 < x.1.f1)
 ·rw [decide_eq_true h, decide_eq_false (by omega)]; rfl
 ·rw [decide_eq_false h, decide_eq_true (by omega)]; rfl
theorem depLift : ∀ xs : List S83, xs.all depIn = true → ∃ ys : List DepB, ys.map (·.1) = xs
 | [], _ => ⟨[], rfl⟩
 | x :: xs, h => by
  simp only [List.all_cons, Bool.and_eq_true] at h
  obtain ⟨ys, e⟩ := depLift xs h.2
  exact ⟨⟨x, h.1⟩ :: ys, by subst e; rfl⟩
theorem depCB_flat (ys : List DepB) : ys.flatMap depCB = (ys.map (·.1)).flatMap depC := by
 induction ys with
 | nil => rfl
 | cons y ys ih => rw [List.flatMap_cons, List.map_cons, List.flatMap_cons, ih]; rfl
/-- compareDepends, as a function value: it lays its two parameters' boxes -/
theorem depCmp (a b : DepB) (W : World) : Calls Try.prog 119 #[.agg #[.int .i64 a.1.f0, .int .i64 a.1.f1], .agg #[.int .i64 b.1.f0, .int .i64 b.1.f1]] W fun e w' => e = .returned (.int .i64 (depCf a b)) ∧ ∃ q os', w' = Go.Sort.grow (W.drewN q) os' := by
 have ha := depB_bd a
 have hb := depB_bd b
 unfold depCf
 generalize a.1.f0 = a0 at *
 generalize a.1.f1 = a1 at *
 generalize b.1.f0 = b0 at *
 generalize b.1.f1 = b1 at *
 by_cases h : a0 = b0
 ·have h1 : (a0 == b0) = true := beq_iff_eq.2 h
  have h2 : (a0 != b0) = false := bne_eq_false_iff_eq.2 h
  rw [if_pos h]
  have HH := qad.mk h
  clear h
  go_enter Try.func119, Try.ntmps119
  go_wp2
  go_ret
  exact ⟨rfl, 0, _, by rw [Go.Sort.alloc_eq_grow, Go.Sort.alloc_eq_grow, Go.Sort.grow_grow]; rfl⟩
 ·have h1 : (a0 == b0) = false := beq_eq_false_iff_ne.2 h
  have h2 : (a0 != b0) = true := bne_iff_ne.2 h
  rw [if_neg h]
  have HH := qad.mk h
  clear h
  go_enter Try.func119, Try.ntmps119
  go_wp2
  go_ret
  exact ⟨rfl, 0, _, by rw [Go.Sort.alloc_eq_grow, Go.Sort.alloc_eq_grow, Go.Sort.grow_grow]; rfl⟩
theorem impl_arranged.abs (A : Option Addr) (c : Nat) (xs rs : List S83) (hf : impl_arranged.f xs = some rs) (w00 w : World) (hB : Below w00.heap.size w00 w) (hO : Kd.R k83 83 w w00.heap.size (fun _ => True) (.slice A xs.length c) xs) :
  Calls Try.prog 88 #[.slice A xs.length c] w fun e w' => ∃ v : Value, e = .returned v ∧ Kd.R k83 83 w' w00.heap.size (fun _ => True) v rs ∧ Below w00.heap.size w00 w' := by
 unfold impl_arranged.f at hf
 by_cases hin : xs.all depIn = true
 ·rw [if_pos hin] at hf
  by_cases hl : xs.length ≤ 100000000
  ·rw [if_pos hl] at hf
   have hrs := Option.some.inj hf
   clear hf
   have HB := qad.mk hB
   have HO := qad.mk hO
   have hc : xs.length ≤ c := (Kd.qaw hO).2.1
   clear hB hO
   rcases Nat.eq_zero_or_pos xs.length with z | z
   ·obtain rfl := List.length_eq_zero_iff.1 z
    rw [List.mergeSort_nil] at hrs
    have HR : qad ([] = rs) := ⟨hrs⟩
    clear z hrs
    have hnone := fun W => AnyF.slices_SortFunc_none { Try.laysSortD with } A c (.func (.func 119) #[] #[]) W
    change ∀ W, Calls Try.prog 135 _ _ _ at hnone
    have HN := qad.mk hnone
    clear hnone
    have hemp : ∀ W, Calls Try.prog 136 #[.slice A 0 c] W fun e w' => e = .returned (.slice A 0 c) ∧ w' = W := by
     intro W
     go_enter Try.func136, Try.ntmps136
     go_wp2
     go_ret
     exact ⟨rfl, rfl⟩
    have HE := qad.mk hemp
    clear hemp
    go_enter Try.func88, Try.ntmps88
    go_wp2_with (first | (go_at_call 135; refine (HN.out _).mono ?_; rintro e w5 ⟨rfl, rfl⟩) | (go_at_call 136; refine (HE.out _).mono ?_; rintro e w6 ⟨rfl, rfl⟩))
    go_ret
    refine ⟨_, rfl, ?_, HB.out⟩
    rw [← HR.out]
    exact HO.out
   ·obtain ⟨ys, hys⟩ := depLift xs hin
    have hyl : ys.length = xs.length := by rw [← hys, List.length_map]
    have own := dep_own HO.out
    obtain ⟨g, _, hA, _⟩ := Srt.own_slice own z
    subst hA
    have ownB : w.ownsRow w00.heap.size 83 2 (.slice (some ⟨g, 0, none⟩) ys.length c) ys.length (ys.flatMap depCB) := by
     rw [hyl, depCB_flat, hys]; exact own
    obtain ⟨hH, hg, hbg⟩ := Srt.holdsK depCB 2 (fun _ => rfl) (by omega) ownB (by omega)
    have eg : ∀ args w, (callFunc 119 args).run Try.prog w = .ok (.enter 119 args) w := fun args w => by kernel_rfl
    have hcon := AnyQ.slices_SortFunc_total Try.laysSortD 2 Try.isAgg83 Try.sizeOf83 depCB (fun _ => rfl) (fun x v hv => by simp [depCB, depC] at hv; rcases hv with rfl | rfl <;> rfl) depCf depSWO 119 #[] g 0 c ys.toArray w eg (fun _ _ _ _ x y => depCmp x y _) hH hg (by simp; omega) depTot
    change Calls Try.prog 135 _ _ _ at hcon
    rw [show ys.toArray.size = xs.length by simp [hyl]] at hcon
    obtain ⟨zs, hzs⟩ : ∃ zs, zs = ys.mergeSort fun x y => !Go.Proofs.ltOf depCf y x := ⟨_, rfl⟩
    have hzl : zs.length = ys.length := by rw [hzs, List.length_mergeSort]
    have hzm : zs.map (·.1) = xs.mergeSort depLe := by
     rw [hzs, ← hys]
     exact List.map_mergeSort (fun a _ b _ => depLeB a b)
    simp only [← hzs] at hcon
    have HC := qad.mk hcon
    have OB := qad.mk ownB
    have HZ := qad.mk hzm
    have HL : qad (zs.length = ys.length ∧ 0 < ys.length) := ⟨hzl, by omega⟩
    have HR := qad.mk hrs
    clear hcon ownB hzs hzm hzl hyl hys hH own eg hrs z
    go_enter Try.func88, Try.ntmps88
    go_wp2_with (fail)
    refine (HC.out).mono ?_
    rintro e w5 ⟨rfl, n, os, hw⟩
    obtain ⟨o5, g5⟩ := Srt.putK depCB 2 (fun _ => rfl) (by omega) OB.out HL.out.2 HL.out.1 n os
    have hw2 : w5 = Go.Sort.grow (Go.Sort.putRowK depCB 2 (Go.Sort.ahead w n) g 0 zs.toArray) os := hw
    rw [← hw2, depCB_flat, HZ.out, show zs.length = (xs.mergeSort depLe).length by rw [← HZ.out, List.length_map]] at o5
    rw [← hw2] at g5
    have B5 := Below.grown HB.out g5 HB.out.size (fun k hk => by injection hk with hk; omega)
    have hcc := depCompact g c (xs.mergeSort depLe) w00 w5 B5 (dep_R o5)
    rw [List.length_mergeSort, HR.out] at hcc
    have HCC := qad.mk hcc
    clear hw hw2 o5 g5 B5 hcc HC OB HZ HL HR
    go_wp2_with (fail)
    refine (HCC.out).mono ?_
    rintro e w6 ⟨rfl, ho, hb⟩
    have HO6 := qad.mk ho
    have HB6 := qad.mk hb
    clear ho hb
    go_wp2_with (fail)
    go_ret
    exact ⟨_, rfl, HO6.out, HB6.out⟩
  ·rw [if_neg hl] at hf; exact absurd hf (by simp)
 ·rw [if_neg hin] at hf; exact absurd hf (by simp)



/-! ### impl_DependsOf: function 32 (by hand) -/
def impl_DependsOf.st (l : List S83) (q : Int × Int) : List S83 := l ++ [⟨q.1, q.2⟩]
theorem impl_DependsOf.st_fold (vs : List (Int × Int)) : ∀ l : List S83, vs.foldl impl_DependsOf.st l = l ++ vs.map fun q => ⟨q.1, q.2⟩ := by
 induction vs with
 | nil => intro l; simp
 | cons q vs ih => intro l; rw [List.foldl_cons, ih]; simp [impl_DependsOf.st]
set_option maxHeartbeats 4000000 in
set_option maxRecDepth 100000 in
/-- the visitor of DependsOf: one dependency more -/
theorem impl_DependsOf.clo (a b : Int) (l : List S83) (hl : l.length ≤ 1000000) (bo : Nat) (w00 W : World) (t : Acc k83 83 48 w00 bo l W) :
  Calls Try.prog 87 #[.int .i64 a, .int .i64 b, .pointer (some ⟨bo, 0, none⟩)] W fun e W' => e = .returned (.tuple #[]) ∧ Acc k83 83 48 w00 bo (impl_DependsOf.st l (a, b)) W' ∧ W.heap.size ≤ W'.heap.size ∧ (∀ k, k < W.heap.size → ¬ AccO 48 bo W k → W'.heap[k]? = W.heap[k]?) ∧ (∀ k, AccO 48 bo W' k → AccO 48 bo W k ∨ W.heap.size ≤ k) := by
 have hu1 := Try.underlying83
 obtain ⟨h1, h2, v, h3, h4⟩ := t
 obtain ⟨A, c, rfl, hlc, _⟩ := Kd.qcl h4
 have e0 : W.cell? ⟨bo, 0, none⟩ = some (.slice A l.length c) := (qag h3 0).trans rfl
 have f0 : W.frozen? ⟨bo, 0, none⟩ = false := qaf h3 0
 have H1 := qad.mk h1
 have H2 := qad.mk h2
 have H3 := qad.mk h3
 have H4 := qad.mk h4
 clear h1 h2 h3 h4
 go_enter Try.func87, Try.ntmps87
 go_wp2_with ((with_reducible refine qbm (b := .append) (xs := #[.tmp 5, .tmp 9]) rfl ?_); (try (refine qbd (by rfl) ?_; dsimp only)); at_builtin; refine Kd.qcm k83 (w0 := w00) w00.heap.size rfl (.tmp 5) (.tmp 9) 48 83 (.agg #[.int .i64 0, .int .i64 0]) 16 rfl Try.underlying48 info83 rfl (by decide) (by omega) (.slice A l.length c) l ⟨a, b⟩ [.int .i64 a, .int .i64 b] (fun _ => True) (fun _ => False) rfl rfl ?aP (fun _ hk => hk.elim) ?aF ?aO ?aB ?aS ?aL ?_; (case aP => exact k83_mkM _ _ _ ⟨a, b⟩); (case aB => exact H1.out); (case aF => exact (fun _ _ => trivial)); (case aO => exact H4.out); (case aS => exact H1.out.size); (case aL => omega); intro v1 w1 ho hb hg hat; obtain ⟨A3, c3, rfl⟩ := Kd.qbg ho; have HP := qad.mk (Acc.put hb H2.out H3.out H4.out (by decide) ho hg hat); have e1 : w1.cell? ⟨bo, 0, none⟩ = some (.slice A l.length c) := (qag (qbo H3.out hg (Kd.R_ne H4.out H3.out (by decide))) 0).trans rfl; have f1 : w1.frozen? ⟨bo, 0, none⟩ = false := qaf (qbo H3.out hg (Kd.R_ne H4.out H3.out (by decide))) 0; clear e0 f0 ho hb hg hat)
 go_end0
 refine ⟨rfl, ?_⟩
 unfold impl_DependsOf.st
 have z := HP.out
 simp only [List.length_append, List.length_singleton] at z
 exact z
def impl_DependsOf.f (k : Nat) (a0_0 : Int) (a0_1 : Int) (l0_2 : List Int) (l1_0 : List Int) : Option (List S83) := (impl_TableOk.f k a0_0 a0_1 l0_2 l1_0).bind fun t => (if t = true then ((impl_NodeCount.f a0_0 a0_1).bind fun n => ((impl_adjacent.wk k a0_0 a0_1 l0_2 l1_0 (pall n.toNat 0)).bind fun vs => (if vs.length ≤ 1000000 then impl_arranged.f (vs.foldl impl_DependsOf.st []) else none))) else (some []))
theorem impl_DependsOf.mono : ∀ a0 a1 a2 a3 k, LeO (impl_DependsOf.f k a0 a1 a2 a3) (impl_DependsOf.f (k + 1) a0 a1 a2 a3) := by
 intro a0 a1 a2 a3 k
 unfold impl_DependsOf.f
 exact LeO.bind (impl_TableOk.mono _ _ _ _ _) fun _ => LeO.ite (LeO.bind (LeO.refl _) fun _ => LeO.bind (impl_adjacent.mono_w _ _ _ _ _ _) fun _ => LeO.refl _) (LeO.refl _)
/-- what DependsOf's visitor keeps -/
theorem impl_DependsOf.vis (w00 : World) (bo : Nat) (fin : List S83) : Vis 87 #[.pointer (some ⟨bo, 0, none⟩)] w00 (fun vs W => ∃ l, Acc k83 83 48 w00 bo l W ∧ vs.foldl impl_DependsOf.st l = fin ∧ l.length + vs.length ≤ 1000000) (AccO 48 bo) where
 eg := fun args W => by kernel_rfl
 elder := fun _ _ ⟨_, h, _⟩ => h.1
 lt := fun _ _ k ⟨_, h, _⟩ hk => Acc.lt h k hk
 move := fun _ _ _ ⟨l, h, h2⟩ hb => ⟨⟨l, (Acc.move h hb).1, h2⟩, (Acc.move h hb).2⟩
 step := fun a b vs W ⟨l, h, h2, h3⟩ => by
  simp only [List.length_cons] at h3
  refine (impl_DependsOf.clo a b l (by omega) bo w00 W h).mono ?_
  rintro e W' ⟨rfl, h4, h5, h6, h7⟩
  have h8 : (impl_DependsOf.st l (a, b)).length ≤ l.length + 1 := by unfold impl_DependsOf.st; simp
  exact ⟨rfl, ⟨_, h4, h2, by omega⟩, h5, h6, h7⟩
set_option maxHeartbeats 4000000 in
set_option maxRecDepth 100000 in
theorem impl_DependsOf.calls (k : Nat) (a0_0 : Int) (a0_1 : Int) (A0_2 : Option Addr) (c0_2 : Nat) (l0_2 : List Int) (A1_0 : Option Addr) (c1_0 : Nat) (l1_0 : List Int) (r : List S83) (w : World) (hr0_2 : Kd.C (Kd.int .i64) w A0_2 l0_2.length l0_2) (hc0_2 : l0_2.length ≤ c0_2) (hr1_0 : Kd.C (Kd.int .i64) w A1_0 l1_0.length l1_0) (hc1_0 : l1_0.length ≤ c1_0) (h : impl_DependsOf.f k a0_0 a0_1 l0_2 l1_0 = some r) :
  Calls Try.prog 32 #[.agg #[.int .i64 a0_0, .int .i64 a0_1, .slice A0_2 l0_2.length c0_2], .agg #[.slice A1_0 l1_0.length c1_0]] w fun e w' => ∃ v0_ : Value, e = .returned (v0_) ∧ Kd.R k83 83 w' w.heap.size (fun _ => True) v0_ r ∧ Below w.heap.size w w' := by
 have hu1 := Try.underlying34
 have hu2 := Try.underlying36
 have hu3 := Try.underlying32
 have HR := qad.mk hr0_2
 have HR1 := qad.mk hr1_0
 have HB := qad.mk (Below.refl w.heap.size w)
 unfold impl_DependsOf.f at h
 obtain ⟨t, ht, h⟩ := Option.bind_eq_some_iff.1 h
 have HT := qad.mk ht
 have H := qad.mk h
 clear hr0_2 hr1_0 ht h
 go_enter Try.func32, Try.ntmps32
 go_upto_region 1 with (first
  | ((with_reducible refine qar (N := 2) rfl ?_); refine qaq ?hg (N := 2) ?hd (cs := #[.int .i64 a0_0, .int .i64 a0_1, .slice A0_2 l0_2.length c0_2]) (t := 34) ?hr ?_; (case hd => rfl); (case hg => rfl); (case hr => first | (go_simp; done) | (go_simp; rfl)); intro gm hg w1 hbox hb; have n1 := qad.mk (qak HB.out hb); have n2 := qad.mk hbox; clear HB hb hbox hg; have HB := n1; have BKm := n2; clear n1 n2)
  | ((with_reducible refine qar (N := 3) rfl ?_); refine qaq ?hg (N := 3) ?hd (cs := #[.slice A1_0 l1_0.length c1_0]) (t := 36) ?hr ?_; (case hd => rfl); (case hg => rfl); (case hr => first | (go_simp; done) | (go_simp; rfl)); intro gt hg w2 hbox hb; have n1 := qad.mk (qak HB.out hb); have n2 := qad.mk hbox; have n3 := qad.mk (qam BKm.out hb); clear HB BKm hb hbox hg; have HB := n1; have BKt := n2; have BKm := n3; clear n1 n2 n3))
 (try simp only [Act.put, List.setIfInBounds_toArray, List.set_cons_zero, List.set_cons_succ])
 go_cut [5, 6] (fun v5 v6 wc => ∃ go : Nat, v5 = .pointer (some ⟨go, 0, none⟩) ∧ qad (wc.heap[gm]? = some (.cells #[.int .i64 a0_0, .int .i64 a0_1, .slice A0_2 l0_2.length c0_2] 34 (0, 0))) ∧ qad (wc.heap[gt]? = some (.cells #[.slice A1_0 l1_0.length c1_0] 36 (0, 0))) ∧ qad (Acc k83 83 48 w go [] wc))
 case first =>
  go_wp2
  go_meet
  case rel => exact ⟨_, rfl, ⟨qah (qah BKm.out _) _⟩, ⟨qah (qah BKt.out _) _⟩, ⟨Acc.start _ _ _ HB.out⟩⟩
 clear HB BKm BKt
 obtain ⟨go, rfl, BKm, BKt, HA⟩ := hcut
 obtain ⟨ha1, ha2, va, ha3, ha4⟩ := HA.out
 have e0 : wc.cell? ⟨gm, 0, none⟩ = some (.int .i64 a0_0) := (qag BKm.out 0).trans rfl
 have e1 : wc.cell? ⟨gm, 1, none⟩ = some (.int .i64 a0_1) := (qag BKm.out 1).trans rfl
 have e2 : wc.cell? ⟨gm, 2, none⟩ = some (.slice A0_2 l0_2.length c0_2) := (qag BKm.out 2).trans rfl
 have e3 : wc.cell? ⟨gt, 0, none⟩ = some (.slice A1_0 l1_0.length c1_0) := (qag BKt.out 0).trans rfl
 have HB := qad.mk ha1
 clear ha1 ha2 ha3 ha4
 go_wp2_with (fail)
 refine (impl_TableOk.calls k a0_0 a0_1 A0_2 c0_2 l0_2 A1_0 c1_0 l1_0 t _ (Kd.qaz HR.out HB.out) hc0_2 (Kd.qaz HR1.out HB.out) hc1_0 HT.out).mono ?_
 rintro e w3 ⟨rfl, hb⟩
 clear e0 e1 e2 e3
 have n1 := qad.mk (Acc.move HA.out hb).1
 have n2 := qad.mk (qam BKm.out hb)
 have n3 := qad.mk (qam BKt.out hb)
 clear HA BKm BKt HB hb
 have HA := n1
 have BKm := n2
 have BKt := n3
 clear n1 n2 n3
 obtain ⟨ha1, ha2, va, ha3, ha4⟩ := HA.out
 obtain ⟨Aa, ca, rfl, _, _⟩ := Kd.qcl ha4
 have e4 : w3.cell? ⟨go, 0, none⟩ = some (.slice Aa 0 ca) := (qag ha3 0).trans rfl
 have HO := qad.mk ha4
 have HB := qad.mk ha1
 clear ha1 ha2 ha3 ha4
 cases t with
 | false =>
  have h := H.out
  clear H
  rw [if_neg (by decide)] at h
  obtain rfl := Option.some.inj h
  go_wp2
  go_ret
  exact ⟨_, rfl, HO.out, HB.out⟩
 | true =>
  have h := (if_pos rfl).symm.trans H.out
  clear H HO HB
  obtain ⟨n, hn, h⟩ := Option.bind_eq_some_iff.1 h
  obtain ⟨N, rfl, hN⟩ := nodes_nat hn
  rw [Int.toNat_natCast] at h
  obtain ⟨vs, hvs, h⟩ := Option.bind_eq_some_iff.1 h
  by_cases hl : vs.length ≤ 1000000
  ·rw [if_pos hl] at h
   have H6 := qad.mk h
   have HN := qad.mk hn
   have HVS := qad.mk hvs
   clear h hn hvs
   have e0 : w3.cell? ⟨gm, 0, none⟩ = some (.int .i64 a0_0) := (qag BKm.out 0).trans rfl
   have e1 : w3.cell? ⟨gm, 1, none⟩ = some (.int .i64 a0_1) := (qag BKm.out 1).trans rfl
   have e2 : w3.cell? ⟨gm, 2, none⟩ = some (.slice A0_2 l0_2.length c0_2) := (qag BKm.out 2).trans rfl
   have e3 : w3.cell? ⟨gt, 0, none⟩ = some (.slice A1_0 l1_0.length c1_0) := (qag BKt.out 0).trans rfl
   go_wp2_with (fail)
   refine (impl_adjacent.abs k a0_0 a0_1 A0_2 c0_2 l0_2 A1_0 c1_0 l1_0 N HN.out hN vs HVS.out 87 #[.pointer (some ⟨go, 0, none⟩)] w _ _ _ (impl_DependsOf.vis w go (vs.foldl impl_DependsOf.st [])) ⟨[], HA.out, rfl, by simpa using hl⟩ HR.out hc0_2 HR1.out hc1_0).mono ?_
   rintro e w4 ⟨rfl, F, hacc, hfin, _⟩
   clear e0 e1 e2 e3 e4 HA BKm BKt
   simp only [List.foldl_nil] at hfin
   rw [← hfin] at H6
   clear hfin HVS HN hl hN
   obtain ⟨h1, h2, v, h3, h4⟩ := hacc
   obtain ⟨A, c, rfl, hc, _⟩ := Kd.qcl h4
   have e0 : w4.cell? ⟨go, 0, none⟩ = some (.slice A F.length c) := (qag h3 0).trans rfl
   have HB := qad.mk h1
   have HO := qad.mk h4
   clear h1 h3 h4
   go_wp2_with (fail)
   refine (impl_arranged.abs A c F r H6.out w w4 HB.out HO.out).mono ?_
   rintro e w5 ⟨v, rfl, ho, hb⟩
   obtain ⟨A5, c5, rfl, _, _⟩ := Kd.qcl ho
   have HO5 := qad.mk ho
   have HB5 := qad.mk hb
   clear e0 ho hb HO HB
   go_wp2_with (fail)
   go_ret
   exact ⟨_, rfl, HO5.out, HB5.out⟩
  ·rw [if_neg hl] at h
   exact absurd h (by simp)



/-! ### laws_eqDepend: function 89 -/
def laws_eqDepend.f (a0_0 : Int) (a0_1 : Int) (a1_0 : Int) (a1_1 : Int) : Option (Bool) := if a0_0 = a1_0 then (if a0_1 = a1_1 then (some true) else (some false)) else (some false)
set_option maxHeartbeats 8000000 in
set_option maxRecDepth 100000 in
theorem laws_eqDepend.calls (a0_0 : Int) (a0_1 : Int) (a1_0 : Int) (a1_1 : Int) (r : Bool) (w : World) (h : laws_eqDepend.f a0_0 a0_1 a1_0 a1_1 = some r) :
  Calls Try.prog 89 #[.agg #[.int .i64 a0_0, .int .i64 a0_1], .agg #[.int .i64 a1_0, .int .i64 a1_1]] w fun e w' => e = .returned (.bool r) ∧ Below w.heap.size w w' := by
 have hu83 := Try.underlying83
 have HB := qad.mk (Below.refl w.heap.size w)
 have H : (if a0_0 = a1_0 then (if a0_1 = a1_1 then (some true) else (some false)) else (some false)) = some r := h
 clear h
 by_cases c3 : a0_0 = a1_0
 ·rw [if_pos c3] at H
  have c3b0 : (a0_0 == a1_0) = true := beq_iff_eq.mpr c3
  have c3b1 : (a0_0 != a1_0) = false := bne_eq_false_iff_eq.mpr c3
  clear c3
  by_cases c4 : a0_1 = a1_1
  ·rw [if_pos c4] at H
   have c4b0 : (a0_1 == a1_1) = true := beq_iff_eq.mpr c4
   have c4b1 : (a0_1 != a1_1) = false := bne_eq_false_iff_eq.mpr c4
   clear c4
   obtain rfl := Option.some.inj H
   go_enter Try.func89, Try.ntmps89
   go_wp2_with (first | ((with_reducible refine qar (N := 2) rfl ?_); refine qaq ?hg (N := 2) ?hd (cs := #[.int .i64 a0_0, .int .i64 a0_1]) (t := 83) ?hr ?_; (case hd => rfl); (case hg => rfl); (case hr => first | (go_simp; done) | (go_simp; rfl)); intro gb350 hg w5 hbox hb; have n0_ := qad.mk (qak (by repeat (first | (with_reducible first | exact HB.out | apply qac | apply qaa | apply qab) | exact HB.out)) hb); have n1_ := qad.mk (hbox); have n2_ := qad.mk ((by rw [hg]; exact (qal (by repeat (first | (with_reducible first | exact HB.out | apply qac | apply qaa | apply qab) | exact HB.out))) : w.heap.size ≤ gb350)); have n3_ := qad.mk ((by rw [hg]; exact (qal (by repeat (first | (with_reducible first | exact HB.out | apply qac | apply qaa | apply qab) | exact HB.out))) : w.heap.size ≤ gb350)); clear HB; have HB := n0_; have BK350 := n1_; have GW350 := n2_; have GE350 := n3_; clear n0_ n1_ n2_ n3_; clear hb hbox hg) | ((with_reducible refine qar (N := 3) rfl ?_); refine qaq ?hg (N := 3) ?hd (cs := #[.int .i64 a1_0, .int .i64 a1_1]) (t := 83) ?hr ?_; (case hd => rfl); (case hg => rfl); (case hr => first | (go_simp; done) | (go_simp; rfl)); intro gb351 hg w6 hbox hb; have n0_ := qad.mk (qam (g := gb350) (o := .cells #[.int .i64 a0_0, .int .i64 a0_1] 83 (0, 0)) (by (with_reducible repeat (first | refine qai ?_ _ | refine qaj ?_ | refine qah ?_ _)); exact BK350.out) hb); have n1_ := qad.mk (qak (by repeat (first | (with_reducible first | exact HB.out | apply qac | apply qaa | apply qab | refine qae ?_ GE350.out) | exact HB.out)) hb); have n2_ := qad.mk (hbox); have n3_ := qad.mk ((by rw [hg]; exact (qal (by repeat (first | (with_reducible first | exact HB.out | apply qac | apply qaa | apply qab | refine qae ?_ GE350.out) | exact HB.out))) : w.heap.size ≤ gb351)); have n4_ := qad.mk ((by rw [hg]; exact (qal (by repeat (first | (with_reducible first | exact HB.out | apply qac | apply qaa | apply qab | refine qae ?_ GE350.out) | exact HB.out))) : w.heap.size ≤ gb351)); have n5_ := qad.mk ((by rw [hg]; exact Nat.ne_of_lt (qbb (g := gb350) (o := .cells #[.int .i64 a0_0, .int .i64 a0_1] 83 (0, 0)) (by (with_reducible repeat (first | refine qai ?_ _ | refine qaj ?_ | refine qah ?_ _)); exact BK350.out)) : gb350 ≠ gb351)); have n6_ := qad.mk ((by rw [hg]; exact Nat.ne_of_gt (qbb (g := gb350) (o := .cells #[.int .i64 a0_0, .int .i64 a0_1] 83 (0, 0)) (by (with_reducible repeat (first | refine qai ?_ _ | refine qaj ?_ | refine qah ?_ _)); exact BK350.out)) : gb351 ≠ gb350)); clear BK350; clear HB; have BK350 := n0_; have HB := n1_; have BK351 := n2_; have GW351 := n3_; have GE351 := n4_; have NB350_351 := n5_; have NB351_350 := n6_; clear n0_ n1_ n2_ n3_ n4_ n5_ n6_; clear hb hbox hg; have hnb7 := NB350_351.out; have hnc7 := NB351_350.out; have hcz8_0 : w6.cell? ⟨gb350, 0, none⟩ = some (.int .i64 a0_0) := (qag BK350.out 0).trans rfl; have hcz8_1 : w6.cell? ⟨gb350, 1, none⟩ = some (.int .i64 a0_1) := (qag BK350.out 1).trans rfl; have hfz8_0 := qaf BK350.out 0; have hfz8_1 := qaf BK350.out 1; have hcz9_0 : w6.cell? ⟨gb351, 0, none⟩ = some (.int .i64 a1_0) := (qag BK351.out 0).trans rfl; have hcz9_1 : w6.cell? ⟨gb351, 1, none⟩ = some (.int .i64 a1_1) := (qag BK351.out 1).trans rfl; have hfz9_0 := qaf BK351.out 0; have hfz9_1 := qaf BK351.out 1))
   go_ret
   exact ⟨by first | rfl | (simp [errW_none, errW_some] <;> rfl) | (simp [*, errW_none, errW_some] <;> rfl), by repeat (first | (with_reducible first | exact HB.out | apply qac | apply qaa | apply qab | refine qae ?_ GE350.out | refine qae ?_ GE351.out) | exact HB.out)⟩
  ·rw [if_neg c4] at H
   have c4b0 : (a0_1 == a1_1) = false := beq_eq_false_iff_ne.mpr c4
   have c4b1 : (a0_1 != a1_1) = true := bne_iff_ne.mpr c4
   obtain rfl := Option.some.inj H
   go_enter Try.func89, Try.ntmps89
   go_wp2_with (first | ((with_reducible refine qar (N := 2) rfl ?_); refine qaq ?hg (N := 2) ?hd (cs := #[.int .i64 a0_0, .int .i64 a0_1]) (t := 83) ?hr ?_; (case hd => rfl); (case hg => rfl); (case hr => first | (go_simp; done) | (go_simp; rfl)); intro gb350 hg w10 hbox hb; have n0_ := qad.mk (qak (by repeat (first | (with_reducible first | exact HB.out | apply qac | apply qaa | apply qab) | exact HB.out)) hb); have n1_ := qad.mk (hbox); have n2_ := qad.mk ((by rw [hg]; exact (qal (by repeat (first | (with_reducible first | exact HB.out | apply qac | apply qaa | apply qab) | exact HB.out))) : w.heap.size ≤ gb350)); have n3_ := qad.mk ((by rw [hg]; exact (qal (by repeat (first | (with_reducible first | exact HB.out | apply qac | apply qaa | apply qab) | exact HB.out))) : w.heap.size ≤ gb350)); clear HB; have HB := n0_; have BK350 := n1_; have GW350 := n2_; have GE350 := n3_; clear n0_ n1_ n2_ n3_; clear hb hbox hg) | ((with_reducible refine qar (N := 3) rfl ?_); refine qaq ?hg (N := 3) ?hd (cs := #[.int .i64 a1_0, .int .i64 a1_1]) (t := 83) ?hr ?_; (case hd => rfl); (case hg => rfl); (case hr => first | (go_simp; done) | (go_simp; rfl)); intro gb351 hg w11 hbox hb; have n0_ := qad.mk (qam (g := gb350) (o := .cells #[.int .i64 a0_0, .int .i64 a0_1] 83 (0, 0)) (by (with_reducible repeat (first | refine qai ?_ _ | refine qaj ?_ | refine qah ?_ _)); exact BK350.out) hb); have n1_ := qad.mk (qak (by repeat (first | (with_reducible first | exact HB.out | apply qac | apply qaa | apply qab | refine qae ?_ GE350.out) | exact HB.out)) hb); have n2_ := qad.mk (hbox); have n3_ := qad.mk ((by rw [hg]; exact (qal (by repeat (first | (with_reducible first | exact HB.out | apply qac | apply qaa | apply qab | refine qae ?_ GE350.out) | exact HB.out))) : w.heap.size ≤ gb351)); have n4_ := qad.mk ((by rw [hg]; exact (qal (by repeat (first | (with_reducible first | exact HB.out | apply qac | apply qaa | apply qab | refine qae ?_ GE350.out) | exact HB.out))) : w.heap.size ≤ gb351)); have n5_ := qad.mk ((by rw [hg]; exact Nat.ne_of_lt (qbb (g := gb350) (o := .cells #[.int .i64 a0_0, .int .i64 a0_1] 83 (0, 0)) (by (with_reducible repeat (first | refine qai ?_ _ | refine qaj ?_ | refine qah ?_ _)); exact BK350.out)) : gb350 ≠ gb351)); have n6_ := qad.mk ((by rw [hg]; exact Nat.ne_of_gt (qbb (g := gb350) (o := .cells #[.int .i64 a0_0, .int .i64 a0_1] 83 (0, 0)) (by (with_reducible repeat (first | refine qai ?_ _ | refine qaj ?_ | refine qah ?_ _)); exact BK350.out)) : gb351 ≠ gb350)); clear BK350; clear HB; have BK350 := n0_; have HB := n1_; have BK351 := n2_; have GW351 := n3_; have GE351 := n4_; have NB350_351 := n5_; have NB351_350 := n6_; clear n0_ n1_ n2_ n3_ n4_ n5_ n6_; clear hb hbox hg; have hnb12 := NB350_351.out; have hnc12 := NB351_350.out; have hcz13_0 : w11.cell? ⟨gb350, 0, none⟩ = some (.int .i64 a0_0) := (qag BK350.out 0).trans rfl; have hcz13_1 : w11.cell? ⟨gb350, 1, none⟩ = some (.int .i64 a0_1) := (qag BK350.out 1).trans rfl; have hfz13_0 := qaf BK350.out 0; have hfz13_1 := qaf BK350.out 1; have hcz14_0 : w11.cell? ⟨gb351, 0, none⟩ = some (.int .i64 a1_0) := (qag BK351.out 0).trans rfl; have hcz14_1 : w11.cell? ⟨gb351, 1, none⟩ = some (.int .i64 a1_1) := (qag BK351.out 1).trans rfl; have hfz14_0 := qaf BK351.out 0; have hfz14_1 := qaf BK351.out 1))
   go_ret
   exact ⟨by first | rfl | (simp [errW_none, errW_some] <;> rfl) | (simp [*, errW_none, errW_some] <;> rfl), by repeat (first | (with_reducible first | exact HB.out | apply qac | apply qaa | apply qab | refine qae ?_ GE350.out | refine qae ?_ GE351.out) | exact HB.out)⟩
 ·rw [if_neg c3] at H
  have c3b0 : (a0_0 == a1_0) = false := beq_eq_false_iff_ne.mpr c3
  have c3b1 : (a0_0 != a1_0) = true := bne_iff_ne.mpr c3
  obtain rfl := Option.some.inj H
  go_enter Try.func89, Try.ntmps89
  go_wp2_with (first | ((with_reducible refine qar (N := 2) rfl ?_); refine qaq ?hg (N := 2) ?hd (cs := #[.int .i64 a0_0, .int .i64 a0_1]) (t := 83) ?hr ?_; (case hd => rfl); (case hg => rfl); (case hr => first | (go_simp; done) | (go_simp; rfl)); intro gb350 hg w15 hbox hb; have n0_ := qad.mk (qak (by repeat (first | (with_reducible first | exact HB.out | apply qac | apply qaa | apply qab) | exact HB.out)) hb); have n1_ := qad.mk (hbox); have n2_ := qad.mk ((by rw [hg]; exact (qal (by repeat (first | (with_reducible first | exact HB.out | apply qac | apply qaa | apply qab) | exact HB.out))) : w.heap.size ≤ gb350)); have n3_ := qad.mk ((by rw [hg]; exact (qal (by repeat (first | (with_reducible first | exact HB.out | apply qac | apply qaa | apply qab) | exact HB.out))) : w.heap.size ≤ gb350)); clear HB; have HB := n0_; have BK350 := n1_; have GW350 := n2_; have GE350 := n3_; clear n0_ n1_ n2_ n3_; clear hb hbox hg) | ((with_reducible refine qar (N := 3) rfl ?_); refine qaq ?hg (N := 3) ?hd (cs := #[.int .i64 a1_0, .int .i64 a1_1]) (t := 83) ?hr ?_; (case hd => rfl); (case hg => rfl); (case hr => first | (go_simp; done) | (go_simp; rfl)); intro gb351 hg w16 hbox hb; have n0_ := qad.mk (qam (g := gb350) (o := .cells #[.int .i64 a0_0, .int .i64 a0_1] 83 (0, 0)) (by (with_reducible repeat (first | refine qai ?_ _ | refine qaj ?_ | refine qah ?_ _)); exact BK350.out) hb); have n1_ := qad.mk (qak (by repeat (first | (with_reducible first | exact HB.out | apply qac | apply qaa | apply qab | refine qae ?_ GE350.out) | exact HB.out)) hb); have n2_ := qad.mk (hbox); have n3_ := qad.mk ((by rw [hg]; exact (qal (by repeat (first | (with_reducible first | exact HB.out | apply qac | apply qaa | apply qab | refine qae ?_ GE350.out) | exact HB.out))) : w.heap.size ≤ gb351)); have n4_ := qad.mk ((by rw [hg]; exact (qal (by repeat (first | (with_reducible first | exact HB.out | apply qac | apply qaa | apply qab | refine qae ?_ GE350.out) | exact HB.out))) : w.heap.size ≤ gb351)); have n5_ := qad.mk ((by rw [hg]; exact Nat.ne_of_lt (qbb (g := gb350) (o := .cells #[.int .i64 a0_0, .int .i64 a0_1] 83 (0, 0)) (by (with_reducible repeat (first | refine qai ?_ _ | refine qaj ?_ | refine qah ?_ _)); exact BK350.out)) : gb350 ≠ gb351)); have n6_ := qad.mk ((by rw [hg]; exact Nat.ne_of_gt (qbb (g := gb350) (o := .cells #[.int .i64 a0_0, .int .i64 a0_1] 83 (0, 0)) (by (with_reducible repeat (first | refine qai ?_ _ | refine qaj ?_ | refine qah ?_ _)); exact BK350.out)) : gb351 ≠ gb350)); clear BK350; clear HB; have BK350 := n0_; have HB := n1_; have BK351 := n2_; have GW351 := n3_; have GE351 := n4_; have NB350_351 := n5_; have NB351_350 := n6_; clear n0_ n1_ n2_ n3_ n4_ n5_ n6_; clear hb hbox hg; have hnb17 := NB350_351.out; have hnc17 := NB351_350.out; have hcz18_0 : w16.cell? ⟨gb350, 0, none⟩ = some (.int .i64 a0_0) := (qag BK350.out 0).trans rfl; have hcz18_1 : w16.cell? ⟨gb350, 1, none⟩ = some (.int .i64 a0_1) := (qag BK350.out 1).trans rfl; have hfz18_0 := qaf BK350.out 0; have hfz18_1 := qaf BK350.out 1; have hcz19_0 : w16.cell? ⟨gb351, 0, none⟩ = some (.int .i64 a1_0) := (qag BK351.out 0).trans rfl; have hcz19_1 : w16.cell? ⟨gb351, 1, none⟩ = some (.int .i64 a1_1) := (qag BK351.out 1).trans rfl; have hfz19_0 := qaf BK351.out 0; have hfz19_1 := qaf BK351.out 1))
  go_ret
  exact ⟨by first | rfl | (simp [errW_none, errW_some] <;> rfl) | (simp [*, errW_none, errW_some] <;> rfl), by repeat (first | (with_reducible first | exact HB.out | apply qac | apply qaa | apply qab | refine qae ?_ GE350.out | refine qae ?_ GE351.out) | exact HB.out)⟩


/-! ### laws_eqDependS: function 33 -/
def laws_eqDependS.l0 : Nat → List (S83) → List (S83) → Int → Option (Bool)
 | 0, _, _, _ => none
 | k + 1, x0, x1, x5 => if x5 < (x0.length : Int) then (if 0 ≤ x5 then (if x5 < (x1.length : Int) then ((laws_eqDepend.f ((rd_T83 x0 x5).f0) ((rd_T83 x0 x5).f1) ((rd_T83 x1 x5).f0) ((rd_T83 x1 x5).f1)).bind fun t354 => (if t354 = true then (laws_eqDependS.l0 k x0 x1 (wrap64 (x5 + 1))) else (some false))) else (none)) else (none)) else (some true)
def laws_eqDependS.f (k : Nat) (l0 : List (S83)) (l1 : List (S83)) : Option (Bool) := if (l0.length : Int) = (l1.length : Int) then (laws_eqDependS.l0 k l0 l1 0) else (some false)
theorem laws_eqDependS.mono_l : ∀ k, (∀ y0 y1 y2, LeO (laws_eqDependS.l0 k y0 y1 y2) (laws_eqDependS.l0 (k + 1) y0 y1 y2))
 | 0 => fun _ _ _ r h => by simp [laws_eqDependS.l0] at h
 | k + 1 => by
  have ih0 := laws_eqDependS.mono_l k
  ·intro y0 y1 y2
   unfold laws_eqDependS.l0
   repeat' first
   | (with_reducible exact ih0 _ _ _)
   | (with_reducible exact LeO.refl _)
   | (with_reducible exact LeO.none _)
   | (with_reducible refine LeO.ite ?_ ?_)
   | (with_reducible refine LeO.bind ?_ (fun _ => ?_))
   | exact ih0 _ _ _
   | exact LeO.none _
   | refine LeO.ite ?_ ?_
   | refine LeO.bind ?_ (fun _ => ?_)
theorem laws_eqDependS.mono : ∀ a0 a1 k, LeO (laws_eqDependS.f k a0 a1) (laws_eqDependS.f (k + 1) a0 a1) := by
 intro a0 a1 k
 have ih0 := laws_eqDependS.mono_l k
 unfold laws_eqDependS.f
 repeat' first
   | (with_reducible exact ih0 _ _ _)
   | (with_reducible exact LeO.refl _)
   | (with_reducible exact LeO.none _)
   | (with_reducible refine LeO.ite ?_ ?_)
   | (with_reducible refine LeO.bind ?_ (fun _ => ?_))
   | exact ih0 _ _ _
   | exact LeO.none _
   | refine LeO.ite ?_ ?_
   | refine LeO.bind ?_ (fun _ => ?_)
def laws_eqDependS.T6 : Bool × List (List Nat × List Nat) := (true, [([], []), ([], []), ([0, 1], [0, 1]), ([2], [2]), ([], []), ([], []), ([4, 5], [4, 5]), ([6], [6]), ([3, 7], [3, 7]), ([8], [8])])
def laws_eqDependS.B6 : List Nat := [0, 0, 3, 7, 0, 0, 48, 112, 255, 511]
theorem laws_eqDependS.tab6 : rtab .any (opsOf Try.f33 6) = laws_eqDependS.T6 := by kernel_rfl
theorem laws_eqDependS.bits6 : waitsOk laws_eqDependS.T6.2 laws_eqDependS.B6 = true := by kernel_rfl
set_option maxHeartbeats 8000000 in
set_option maxRecDepth 100000 in
theorem laws_eqDependS.calls (k : Nat) (A0 : Option Addr) (c0 : Nat) (l0 : List (S83)) (A1 : Option Addr) (c1 : Nat) (l1 : List (S83)) (r : Bool) (w : World) (hr0 : Kd.C k83 w A0 l0.length l0) (hc0 : l0.length ≤ c0) (hr1 : Kd.C k83 w A1 l1.length l1) (hc1 : l1.length ≤ c1) (h : laws_eqDependS.f k l0 l1 = some r) :
  Calls Try.prog 33 #[.slice A0 l0.length c0, .slice A1 l1.length c1] w fun e w' => e = .returned (.bool r) ∧ Below w.heap.size w w' := by
 have hu83 := Try.underlying83
 have HR0 := qad.mk hr0
 have HC0 := qad.mk hc0
 clear hr0 hc0
 have HR1 := qad.mk hr1
 have HC1 := qad.mk hc1
 clear hr1 hc1
 have HB := qad.mk (Below.refl w.heap.size w)
 have H : (if (l0.length : Int) = (l1.length : Int) then (laws_eqDependS.l0 k l0 l1 0) else (some false)) = some r := h
 clear h
 by_cases c3 : (l0.length : Int) = (l1.length : Int)
 ·rw [if_pos c3] at H
  have c3b0 : ((l0.length : Int) == (l1.length : Int)) = true := beq_iff_eq.mpr c3
  have c3b1 : ((l0.length : Int) != (l1.length : Int)) = false := bne_eq_false_iff_eq.mpr c3
  have c3b2 : (l0.length == l1.length) = true := by first | simpa using c3 | (simp at c3 ⊢; omega)
  clear c3
  have H' := qad.mk H
  clear H
  go_enter Try.func33, Try.ntmps33
  go_wp2
  go_loopg [5] k (fun kq v5 w' => ∃ (x5_1 : Int), v5 = .int .i64 x5_1 ∧ qad (laws_eqDependS.l0 kq l0 l1 x5_1 = some r) ∧ qad (kq ≤ k) ∧ qad (Below w.heap.size w w'))
  case atStart => exact ⟨(0), (by first | rfl | (simp; done) | (simp [*]; done)), H', ⟨Nat.le_refl _⟩, ⟨by repeat (first | (with_reducible first | exact HB.out | apply qac | apply qaa | apply qab) | exact HB.out)⟩⟩
  case round =>
   clear H'
   try clear c1
   try clear p2
   try clear c3
   try clear c3b0
   try clear c3b1
   try clear c3b2
   obtain ⟨x5_1, rfl, HA, HK1, HB⟩ := hrel
   cases gk with
   | zero => exact absurd HA.out (by simp [laws_eqDependS.l0])
   | succ k1 =>
    have H := HA.out
    clear HA
    simp only [laws_eqDependS.l0] at H
    by_cases c4 : x5_1 < (l0.length : Int)
    ·rw [if_pos c4] at H
     have c4b0 : decide (x5_1 < (l0.length : Int)) = true := decide_eq_true c4
     clear c4
     by_cases c5 : 0 ≤ x5_1
     ·rw [if_pos c5] at H
      have c5b0 : decide (0 ≤ x5_1) = true := decide_eq_true c5
      clear c5
      by_cases c6 : x5_1 < (l1.length : Int)
      ·rw [if_pos c6] at H
       have c6b0 : decide (x5_1 < (l1.length : Int)) = true := decide_eq_true c6
       clear c6
       replace H := Option.bind_eq_some_iff.mp H
       obtain ⟨t354, A70, H⟩ := H
       try dsimp only at H
       have A7 := qad.mk A70
       clear A70
       by_cases c8 : t354 = true
       ·subst c8
        have H1 := H
        rw [if_pos rfl] at H1
        clear H
        have H := H1
        clear H1
        have H' := qad.mk H
        clear H
        try go_wp2
        have n0_ := qad.mk (qab HB.out)
        clear HB
        have HB := n0_
        clear n0_
        have p352 : 0 ≤ (x5_1 : Int) := of_decide_eq_true (by first | (with_reducible assumption) | assumption)
        have q352 : x5_1 < (l0.length : Int) := of_decide_eq_true (by first | (with_reducible assumption) | assumption)
        obtain ⟨ad352, e352, hx352_0, hx352_1⟩ := at_T83 HR0.out x5_1 p352 q352
        have hw352_1 := hx352_1
        have hw352_0 := hx352_0
        cases e352
        replace hx352_0 := (HB.out.cell (World.block_lt_of_cell? w _ hx352_0)).trans hx352_0
        replace hx352_1 := (HB.out.cell (World.block_lt_of_cell? w _ hx352_1)).trans hx352_1
        replace p352 := eq_true p352
        replace q352 := eq_true q352
        have p353 : 0 ≤ (x5_1 : Int) := of_decide_eq_true (by first | (with_reducible assumption) | assumption)
        have q353 : x5_1 < (l1.length : Int) := of_decide_eq_true (by first | (with_reducible assumption) | assumption)
        obtain ⟨ad353, e353, hx353_0, hx353_1⟩ := at_T83 HR1.out x5_1 p353 q353
        have hw353_1 := hx353_1
        have hw353_0 := hx353_0
        cases e353
        replace hx353_0 := (HB.out.cell (World.block_lt_of_cell? w _ hx353_0)).trans hx353_0
        replace hx353_1 := (HB.out.cell (World.block_lt_of_cell? w _ hx353_1)).trans hx353_1
        replace p353 := eq_true p353
        replace q353 := eq_true q353
        refine qcb (n := 10) (S := fun w' => w'.cell? (ad352.add ((x5_1).toNat * 2)) = some (.int .i64 ((rd_T83 l0 x5_1).f0)) ∧ w'.cell? ⟨(ad352.add ((x5_1).toNat * 2)).block, (ad352.add ((x5_1).toNat * 2)).off + 1, none⟩ = some (.int .i64 ((rd_T83 l0 x5_1).f1)) ∧ w'.cell? (ad353.add ((x5_1).toNat * 2)) = some (.int .i64 ((rd_T83 l1 x5_1).f0)) ∧ w'.cell? ⟨(ad353.add ((x5_1).toNat * 2)).block, (ad353.add ((x5_1).toNat * 2)).off + 1, none⟩ = some (.int .i64 ((rd_T83 l1 x5_1).f1))) (ds := []) #[false, false, false, false, false, false, false, false, false, false] (by kernel_rfl) rfl rfl ⟨((HB.out.cell (World.block_lt_of_cell? w _ hw352_0)).trans hw352_0), ((HB.out.cell (World.block_lt_of_cell? w _ hw352_1)).trans hw352_1), ((HB.out.cell (World.block_lt_of_cell? w _ hw353_0)).trans hw353_0), ((HB.out.cell (World.block_lt_of_cell? w _ hw353_1)).trans hw353_1)⟩ (fun hHeld => ?_); refine qbj laws_eqDependS.tab6 laws_eqDependS.bits6 (fun HT_ HW_ => ?_)
        generalize wr.drew = w9 at HB hx352_0 hx352_1 hx353_0 hx353_1 hHeld ⊢
        refine pure_ (i := 0) (N := some 17) (v := ?_) (a' := ?_) #[true, false, false, false, false, false, false, false, false, false] rfl rfl (qat HT_.out (by kernel_rfl)) (fun _ _ _ h => h) (Or.inl ⟨by rfl, ?_⟩) ?_ ?_
        rotate_left
        ·intro w'
         go_simp
         with_reducible rfl
        rotate_left
        ·simp only [Act.put, List.setIfInBounds_toArray, List.set_cons_zero, List.set_cons_succ, i64_w, i32_w]
         rfl
        refine pure_ (i := 1) (N := some 18) (v := ?_) (a' := ?_) #[true, true, false, false, false, false, false, false, false, false] rfl rfl (qat HT_.out (by kernel_rfl)) (fun _ _ _ h => h) (Or.inl ⟨by rfl, ?_⟩) ?_ ?_
        rotate_left
        ·intro w'
         go_simp
         with_reducible rfl
        rotate_left
        ·simp only [Act.put, List.setIfInBounds_toArray, List.set_cons_zero, List.set_cons_succ, i64_w, i32_w]
         rfl
        refine pure_ (i := 2) (N := some 19) (v := ?_) (a' := ?_) #[true, true, true, false, false, false, false, false, false, false] rfl rfl (qat HT_.out (by kernel_rfl)) (fun _ _ _ h => h) (Or.inl ⟨by rfl, ?_⟩) ?_ ?_
        rotate_left
        ·intro w'
         go_simp
         with_reducible rfl
        rotate_left
        ·simp only [Act.put, List.setIfInBounds_toArray, List.set_cons_zero, List.set_cons_succ, i64_w, i32_w]
         rfl
        refine pure_ (i := 4) (N := some 21) (v := ?_) (a' := ?_) #[true, true, true, false, true, false, false, false, false, false] rfl rfl (qat HT_.out (by kernel_rfl)) (fun _ _ _ h => h) (Or.inl ⟨by rfl, ?_⟩) ?_ ?_
        rotate_left
        ·intro w'
         go_simp
         with_reducible rfl
        rotate_left
        ·simp only [Act.put, List.setIfInBounds_toArray, List.set_cons_zero, List.set_cons_succ, i64_w, i32_w]
         rfl
        refine pure_ (i := 5) (N := some 22) (v := ?_) (a' := ?_) #[true, true, true, false, true, true, false, false, false, false] rfl rfl (qat HT_.out (by kernel_rfl)) (fun _ _ _ h => h) (Or.inl ⟨by rfl, ?_⟩) ?_ ?_
        rotate_left
        ·intro w'
         go_simp
         with_reducible rfl
        rotate_left
        ·simp only [Act.put, List.setIfInBounds_toArray, List.set_cons_zero, List.set_cons_succ, i64_w, i32_w]
         rfl
        refine pure_ (i := 6) (N := some 23) (v := ?_) (a' := ?_) #[true, true, true, false, true, true, true, false, false, false] rfl rfl (qat HT_.out (by kernel_rfl)) (fun _ _ _ h => h) (Or.inl ⟨by rfl, ?_⟩) ?_ ?_
        rotate_left
        ·intro w'
         go_simp
         with_reducible rfl
        rotate_left
        ·simp only [Act.put, List.setIfInBounds_toArray, List.set_cons_zero, List.set_cons_succ, i64_w, i32_w]
         rfl
        refine take_ (i := 3) (N := some 20) (v := ?_) (a' := ?_) #[true, true, true, true, true, true, true, false, false, false] rfl rfl (qbc HT_.out HW_.out (by kernel_rfl)) (fun _ _ _ h => h) (Or.inl ⟨by rfl, ?_⟩) hHeld ?_ ?_
        rotate_left
        ·rintro w' ⟨s0, s1, s2, s3⟩
         go_simp
         with_reducible rfl
        rotate_left
        ·simp only [Act.put, List.setIfInBounds_toArray, List.set_cons_zero, List.set_cons_succ, i64_w, i32_w]
         rfl
        refine take_ (i := 7) (N := some 24) (v := ?_) (a' := ?_) #[true, true, true, true, true, true, true, true, false, false] rfl rfl (qbc HT_.out HW_.out (by kernel_rfl)) (fun _ _ _ h => h) (Or.inl ⟨by rfl, ?_⟩) hHeld ?_ ?_
        rotate_left
        ·rintro w' ⟨s0, s1, s2, s3⟩
         go_simp
         with_reducible rfl
        rotate_left
        ·simp only [Act.put, List.setIfInBounds_toArray, List.set_cons_zero, List.set_cons_succ, i64_w, i32_w]
         rfl
        refine one_ (i := 8) (N := some 25) #[true, true, true, true, true, true, true, true, true, false] rfl rfl (qcj HT_.out (by kernel_rfl)) (by decide) (fun K hK => ?_)
        refine goes_ Try.func89 (by kernel_rfl) rfl #[.agg #[.int .i64 ((rd_T83 l0 x5_1).f0), .int .i64 ((rd_T83 l0 x5_1).f1)], .agg #[.int .i64 ((rd_T83 l1 x5_1).f0), .int .i64 ((rd_T83 l1 x5_1).f1)]] (by rfl) rfl rfl (by (try simp only [List.map_toArray, List.map_cons, List.map_nil]); first | done | rfl | (simp only [List.length_drop, List.length_take]; rfl)) ?_
        with_reducible refine (laws_eqDepend.calls ((rd_T83 l0 x5_1).f0) ((rd_T83 l0 x5_1).f1) ((rd_T83 l1 x5_1).f0) ((rd_T83 l1 x5_1).f1) true _ A7.out).mono ?_
        rintro e w10 ⟨rfl, hb⟩
        refine ⟨_, rfl, ?_⟩
        have n0_ := qad.mk (qak (by repeat (first | (with_reducible first | exact HB.out | apply qac | apply qaa | apply qab) | exact HB.out)) hb)
        clear HB
        have HB := n0_
        clear n0_
        (try clear hb)
        (try clear hb2)
        (try clear hk)
        (try clear hi)
        refine hK.out _ _ ⟨((HB.out.cell (World.block_lt_of_cell? w _ hw352_0)).trans hw352_0), ((HB.out.cell (World.block_lt_of_cell? w _ hw352_1)).trans hw352_1), ((HB.out.cell (World.block_lt_of_cell? w _ hw353_0)).trans hw353_0), ((HB.out.cell (World.block_lt_of_cell? w _ hw353_1)).trans hw353_1)⟩ (fun hHeld => ?_)
        clear hK K
        refine norm_ (a' := ?_) ?_ ?_
        rotate_left
        ·show Act.put _ (some 25) _ = _
         simp only [Act.put, List.setIfInBounds_toArray, List.set_cons_zero, List.set_cons_succ, i64_w, i32_w]
         rfl
        refine pure_ (i := 9) (N := some 26) (v := ?_) (a' := ?_) #[true, true, true, true, true, true, true, true, true, true] rfl rfl (qat HT_.out (by kernel_rfl)) (fun _ _ _ h => h) (Or.inl ⟨by rfl, ?_⟩) ?_ ?_
        rotate_left
        ·intro w'
         go_simp
         with_reducible rfl
        rotate_left
        ·simp only [Act.put, List.setIfInBounds_toArray, List.set_cons_zero, List.set_cons_succ, i64_w, i32_w]
         rfl
        refine done_ (qca HT_.out (by kernel_rfl)) ?_
        try go_wp2
        go_roundg k1
        case measure => have := HK1.out; omega
        case rel => exact ⟨(wrap64 (x5_1 + 1)), (by first | rfl | (simp; done) | (simp [*]; done)), H', ⟨by have := HK1.out; omega⟩, ⟨by repeat (first | (with_reducible first | exact HB.out | apply qac | apply qaa | apply qab) | exact HB.out)⟩⟩
       ·replace c8 := Bool.eq_false_iff.mpr c8
        subst c8
        have H1 := H
        rw [if_neg (show ¬ (false = true) by decide)] at H1
        clear H
        have H := H1
        clear H1
        obtain rfl := Option.some.inj H
        try go_wp2
        have n0_ := qad.mk (qab HB.out)
        clear HB
        have HB := n0_
        clear n0_
        have p352 : 0 ≤ (x5_1 : Int) := of_decide_eq_true (by first | (with_reducible assumption) | assumption)
        have q352 : x5_1 < (l0.length : Int) := of_decide_eq_true (by first | (with_reducible assumption) | assumption)
        obtain ⟨ad352, e352, hx352_0, hx352_1⟩ := at_T83 HR0.out x5_1 p352 q352
        have hw352_1 := hx352_1
        have hw352_0 := hx352_0
        cases e352
        replace hx352_0 := (HB.out.cell (World.block_lt_of_cell? w _ hx352_0)).trans hx352_0
        replace hx352_1 := (HB.out.cell (World.block_lt_of_cell? w _ hx352_1)).trans hx352_1
        replace p352 := eq_true p352
        replace q352 := eq_true q352
        have p353 : 0 ≤ (x5_1 : Int) := of_decide_eq_true (by first | (with_reducible assumption) | assumption)
        have q353 : x5_1 < (l1.length : Int) := of_decide_eq_true (by first | (with_reducible assumption) | assumption)
        obtain ⟨ad353, e353, hx353_0, hx353_1⟩ := at_T83 HR1.out x5_1 p353 q353
        have hw353_1 := hx353_1
        have hw353_0 := hx353_0
        cases e353
        replace hx353_0 := (HB.out.cell (World.block_lt_of_cell? w _ hx353_0)).trans hx353_0
        replace hx353_1 := (HB.out.cell (World.block_lt_of_cell? w _ hx353_1)).trans hx353_1
        replace p353 := eq_true p353
        replace q353 := eq_true q353
        refine qcb (n := 10) (S := fun w' => w'.cell? (ad352.add ((x5_1).toNat * 2)) = some (.int .i64 ((rd_T83 l0 x5_1).f0)) ∧ w'.cell? ⟨(ad352.add ((x5_1).toNat * 2)).block, (ad352.add ((x5_1).toNat * 2)).off + 1, none⟩ = some (.int .i64 ((rd_T83 l0 x5_1).f1)) ∧ w'.cell? (ad353.add ((x5_1).toNat * 2)) = some (.int .i64 ((rd_T83 l1 x5_1).f0)) ∧ w'.cell? ⟨(ad353.add ((x5_1).toNat * 2)).block, (ad353.add ((x5_1).toNat * 2)).off + 1, none⟩ = some (.int .i64 ((rd_T83 l1 x5_1).f1))) (ds := []) #[false, false, false, false, false, false, false, false, false, false] (by kernel_rfl) rfl rfl ⟨((HB.out.cell (World.block_lt_of_cell? w _ hw352_0)).trans hw352_0), ((HB.out.cell (World.block_lt_of_cell? w _ hw352_1)).trans hw352_1), ((HB.out.cell (World.block_lt_of_cell? w _ hw353_0)).trans hw353_0), ((HB.out.cell (World.block_lt_of_cell? w _ hw353_1)).trans hw353_1)⟩ (fun hHeld => ?_); refine qbj laws_eqDependS.tab6 laws_eqDependS.bits6 (fun HT_ HW_ => ?_)
        generalize wr.drew = w11 at HB hx352_0 hx352_1 hx353_0 hx353_1 hHeld ⊢
        refine pure_ (i := 0) (N := some 17) (v := ?_) (a' := ?_) #[true, false, false, false, false, false, false, false, false, false] rfl rfl (qat HT_.out (by kernel_rfl)) (fun _ _ _ h => h) (Or.inl ⟨by rfl, ?_⟩) ?_ ?_
        rotate_left
        ·intro w'
         go_simp
         with_reducible rfl
        rotate_left
        ·simp only [Act.put, List.setIfInBounds_toArray, List.set_cons_zero, List.set_cons_succ, i64_w, i32_w]
         rfl
        refine pure_ (i := 1) (N := some 18) (v := ?_) (a' := ?_) #[true, true, false, false, false, false, false, false, false, false] rfl rfl (qat HT_.out (by kernel_rfl)) (fun _ _ _ h => h) (Or.inl ⟨by rfl, ?_⟩) ?_ ?_
        rotate_left
        ·intro w'
         go_simp
         with_reducible rfl
        rotate_left
        ·simp only [Act.put, List.setIfInBounds_toArray, List.set_cons_zero, List.set_cons_succ, i64_w, i32_w]
         rfl
        refine pure_ (i := 2) (N := some 19) (v := ?_) (a' := ?_) #[true, true, true, false, false, false, false, false, false, false] rfl rfl (qat HT_.out (by kernel_rfl)) (fun _ _ _ h => h) (Or.inl ⟨by rfl, ?_⟩) ?_ ?_
        rotate_left
        ·intro w'
         go_simp
         with_reducible rfl
        rotate_left
        ·simp only [Act.put, List.setIfInBounds_toArray, List.set_cons_zero, List.set_cons_succ, i64_w, i32_w]
         rfl
        refine pure_ (i := 4) (N := some 21) (v := ?_) (a' := ?_) #[true, true, true, false, true, false, false, false, false, false] rfl rfl (qat HT_.out (by kernel_rfl)) (fun _ _ _ h => h) (Or.inl ⟨by rfl, ?_⟩) ?_ ?_
        rotate_left
        ·intro w'
         go_simp
         with_reducible rfl
        rotate_left
        ·simp only [Act.put, List.setIfInBounds_toArray, List.set_cons_zero, List.set_cons_succ, i64_w, i32_w]
         rfl
        refine pure_ (i := 5) (N := some 22) (v := ?_) (a' := ?_) #[true, true, true, false, true, true, false, false, false, false] rfl rfl (qat HT_.out (by kernel_rfl)) (fun _ _ _ h => h) (Or.inl ⟨by rfl, ?_⟩) ?_ ?_
        rotate_left
        ·intro w'
         go_simp
         with_reducible rfl
        rotate_left
        ·simp only [Act.put, List.setIfInBounds_toArray, List.set_cons_zero, List.set_cons_succ, i64_w, i32_w]
         rfl
        refine pure_ (i := 6) (N := some 23) (v := ?_) (a' := ?_) #[true, true, true, false, true, true, true, false, false, false] rfl rfl (qat HT_.out (by kernel_rfl)) (fun _ _ _ h => h) (Or.inl ⟨by rfl, ?_⟩) ?_ ?_
        rotate_left
        ·intro w'
         go_simp
         with_reducible rfl
        rotate_left
        ·simp only [Act.put, List.setIfInBounds_toArray, List.set_cons_zero, List.set_cons_succ, i64_w, i32_w]
         rfl
        refine take_ (i := 3) (N := some 20) (v := ?_) (a' := ?_) #[true, true, true, true, true, true, true, false, false, false] rfl rfl (qbc HT_.out HW_.out (by kernel_rfl)) (fun _ _ _ h => h) (Or.inl ⟨by rfl, ?_⟩) hHeld ?_ ?_
        rotate_left
        ·rintro w' ⟨s0, s1, s2, s3⟩
         go_simp
         with_reducible rfl
        rotate_left
        ·simp only [Act.put, List.setIfInBounds_toArray, List.set_cons_zero, List.set_cons_succ, i64_w, i32_w]
         rfl
        refine take_ (i := 7) (N := some 24) (v := ?_) (a' := ?_) #[true, true, true, true, true, true, true, true, false, false] rfl rfl (qbc HT_.out HW_.out (by kernel_rfl)) (fun _ _ _ h => h) (Or.inl ⟨by rfl, ?_⟩) hHeld ?_ ?_
        rotate_left
        ·rintro w' ⟨s0, s1, s2, s3⟩
         go_simp
         with_reducible rfl
        rotate_left
        ·simp only [Act.put, List.setIfInBounds_toArray, List.set_cons_zero, List.set_cons_succ, i64_w, i32_w]
         rfl
        refine one_ (i := 8) (N := some 25) #[true, true, true, true, true, true, true, true, true, false] rfl rfl (qcj HT_.out (by kernel_rfl)) (by decide) (fun K hK => ?_)
        refine goes_ Try.func89 (by kernel_rfl) rfl #[.agg #[.int .i64 ((rd_T83 l0 x5_1).f0), .int .i64 ((rd_T83 l0 x5_1).f1)], .agg #[.int .i64 ((rd_T83 l1 x5_1).f0), .int .i64 ((rd_T83 l1 x5_1).f1)]] (by rfl) rfl rfl (by (try simp only [List.map_toArray, List.map_cons, List.map_nil]); first | done | rfl | (simp only [List.length_drop, List.length_take]; rfl)) ?_
        with_reducible refine (laws_eqDepend.calls ((rd_T83 l0 x5_1).f0) ((rd_T83 l0 x5_1).f1) ((rd_T83 l1 x5_1).f0) ((rd_T83 l1 x5_1).f1) false _ A7.out).mono ?_
        rintro e w12 ⟨rfl, hb⟩
        refine ⟨_, rfl, ?_⟩
        have n0_ := qad.mk (qak (by repeat (first | (with_reducible first | exact HB.out | apply qac | apply qaa | apply qab) | exact HB.out)) hb)
        clear HB
        have HB := n0_
        clear n0_
        (try clear hb)
        (try clear hb2)
        (try clear hk)
        (try clear hi)
        refine hK.out _ _ ⟨((HB.out.cell (World.block_lt_of_cell? w _ hw352_0)).trans hw352_0), ((HB.out.cell (World.block_lt_of_cell? w _ hw352_1)).trans hw352_1), ((HB.out.cell (World.block_lt_of_cell? w _ hw353_0)).trans hw353_0), ((HB.out.cell (World.block_lt_of_cell? w _ hw353_1)).trans hw353_1)⟩ (fun hHeld => ?_)
        clear hK K
        refine norm_ (a' := ?_) ?_ ?_
        rotate_left
        ·show Act.put _ (some 25) _ = _
         simp only [Act.put, List.setIfInBounds_toArray, List.set_cons_zero, List.set_cons_succ, i64_w, i32_w]
         rfl
        refine pure_ (i := 9) (N := some 26) (v := ?_) (a' := ?_) #[true, true, true, true, true, true, true, true, true, true] rfl rfl (qat HT_.out (by kernel_rfl)) (fun _ _ _ h => h) (Or.inl ⟨by rfl, ?_⟩) ?_ ?_
        rotate_left
        ·intro w'
         go_simp
         with_reducible rfl
        rotate_left
        ·simp only [Act.put, List.setIfInBounds_toArray, List.set_cons_zero, List.set_cons_succ, i64_w, i32_w]
         rfl
        refine done_ (qca HT_.out (by kernel_rfl)) ?_
        try go_wp2
        go_ret
        exact ⟨by first | rfl | (simp [errW_none, errW_some] <;> rfl) | (simp [*, errW_none, errW_some] <;> rfl), by repeat (first | (with_reducible first | exact HB.out | apply qac | apply qaa | apply qab) | exact HB.out)⟩
      ·rw [if_neg c6] at H
       exact absurd H (by simp)
     ·rw [if_neg c5] at H
      exact absurd H (by simp)
    ·rw [if_neg c4] at H
     have c4b0 : decide (x5_1 < (l0.length : Int)) = false := decide_eq_false c4
     clear c4
     obtain rfl := Option.some.inj H
     go_wp2
     go_ret
     exact ⟨by first | rfl | (simp [errW_none, errW_some] <;> rfl) | (simp [*, errW_none, errW_some] <;> rfl), by repeat (first | (with_reducible first | exact HB.out | apply qac | apply qaa | apply qab) | exact HB.out)⟩
 ·rw [if_neg c3] at H
  have c3b0 : ((l0.length : Int) == (l1.length : Int)) = false := beq_eq_false_iff_ne.mpr c3
  have c3b1 : ((l0.length : Int) != (l1.length : Int)) = true := bne_iff_ne.mpr c3
  have c3b2 : (l0.length == l1.length) = false := by first | simpa using c3 | (simp at c3 ⊢; omega)
  obtain rfl := Option.some.inj H
  go_enter Try.func33, Try.ntmps33
  go_wp2
  go_ret
  exact ⟨by first | rfl | (simp [errW_none, errW_some] <;> rfl) | (simp [*, errW_none, errW_some] <;> rfl), by repeat (first | (with_reducible first | exact HB.out | apply qac | apply qaa | apply qab) | exact HB.out)⟩


end Go.Proofs.Ytmfkgnfjjfnfmaa.XD
