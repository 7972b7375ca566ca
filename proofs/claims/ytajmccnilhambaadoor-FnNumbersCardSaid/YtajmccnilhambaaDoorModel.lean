/- What is proved: plain facts on grids, ports and channels (no program in sight; no conditions beyond those named). -/
import Derived.RowKit
namespace Go.Proofs.YtajmccnilhambaaDoor.M
open Go.RowKit
theorem wrap64_id {x : Int} (h1 : -9223372036854775808 ≤ x) (h2 : x ≤ 9223372036854775807) : wrap64 x = x := by unfold wrap64; omega
theorem wf_bd {x : Int} (h : (Lit.int .i64 x).wf = true) : -9223372036854775808 ≤ x ∧ x ≤ 9223372036854775807 := by
  simp only [Lit.wf, IntKind.min, IntKind.max, IntKind.signed, IntKind.bits, Bool.and_eq_true, decide_eq_true_eq, if_true] at h
  omega
theorem tmod_of {a b : Int} (h : 0 ≤ a) : Int.tmod a b = a % b := Int.tmod_eq_emod_of_nonneg h
theorem tdiv_of {a b : Int} (h : 0 ≤ a) : Int.tdiv a b = a / b := Int.tdiv_eq_ediv_of_nonneg h
def inR (a b c : Int) : Bool := decide (b ≤ a) && decide (a ≤ c)
theorem inR_iff {a b c : Int} : inR a b c = true ↔ b ≤ a ∧ a ≤ c := by unfold inR; simp
theorem inR_no {a b c : Int} : inR a b c = false ↔ ¬ (b ≤ a ∧ a ≤ c) := by rw [← inR_iff]; simp
def gok (w h : Int) : Bool := inR w 1 4 && inR h 1 4
theorem gok_iff {w h : Int} : gok w h = true ↔ (1 ≤ w ∧ w ≤ 4) ∧ 1 ≤ h ∧ h ≤ 4 := by unfold gok; rw [Bool.and_eq_true, inR_iff, inR_iff]
theorem w4 {w h : Int} (g : gok w h = true) : w = 1 ∨ w = 2 ∨ w = 3 ∨ w = 4 := by rw [gok_iff] at g; omega
theorem h4 {w h : Int} (g : gok w h = true) : h = 1 ∨ h = 2 ∨ h = 3 ∨ h = 4 := by rw [gok_iff] at g; omega
def cnt (w h : Int) : Int := if gok w h = true then w * h else 0
theorem cnt_ok {w h : Int} (g : gok w h = true) : cnt w h = w * h := by unfold cnt; rw [if_pos g]
theorem cnt_no {w h : Int} (g : gok w h = false) : cnt w h = 0 := by unfold cnt; rw [if_neg (by simp [g])]
theorem cnt_bd (w h : Int) : 0 ≤ cnt w h ∧ cnt w h ≤ 16 := by
  by_cases g : gok w h = true
  · rw [cnt_ok g]
    have := gok_iff.1 g
    rcases w4 g with rfl | rfl | rfl | rfl <;> omega
  · rw [cnt_no (by simpa using g)]; omega
theorem cnt_pos {w h : Int} (g : gok w h = true) : 1 ≤ cnt w h := by
  rw [cnt_ok g]
  have := gok_iff.1 g
  rcases w4 g with rfl | rfl | rfl | rfl <;> omega
def nd (w h n : Int) : Bool := inR n 0 (cnt w h - 1)
theorem nd_iff {w h n : Int} : nd w h n = true ↔ 0 ≤ n ∧ n < cnt w h := by unfold nd; rw [inR_iff]; omega
theorem nd_gok {w h n : Int} (d : nd w h n = true) : gok w h = true := by
  by_cases g : gok w h = true
  · exact g
  · have := cnt_no (by simpa using g); rw [nd_iff] at d; omega
theorem nd_bd {w h n : Int} (d : nd w h n = true) : 1 ≤ w ∧ w ≤ 4 ∧ 1 ≤ h ∧ h ≤ 4 ∧ 0 ≤ n ∧ n < 16 ∧ n < w * h ∧ 0 ≤ n % w ∧ n % w < w ∧ 0 ≤ n / w ∧ n / w < h := by
  have g := nd_gok d
  have h1 := gok_iff.1 g
  have h2 := nd_iff.1 d
  have h3 := cnt_ok g
  rcases w4 g with rfl | rfl | rfl | rfl <;> omega
/-- a node is its row's begin and its column -/
theorem nd_split {w h n : Int} (d : nd w h n = true) : n / w * w + n % w = n := by
  have g := nd_gok d
  rcases w4 g with rfl | rfl | rfl | rfl <;> omega
def natx (w h x y : Int) : Int := if (gok w h && inR x 0 (w - 1) && inR y 0 (h - 1)) = true then y * w + x else -1
theorem natx_ok {w h x y : Int} (g : gok w h = true) (x0 : 0 ≤ x) (x1 : x < w) (y0 : 0 ≤ y) (y1 : y < h) : natx w h x y = y * w + x := by
  unfold natx; rw [if_pos (by simp only [Bool.and_eq_true, inR_iff]; exact ⟨⟨g, by omega⟩, by omega⟩)]
theorem natx_no {w h x y : Int} (b : x < 0 ∨ w ≤ x ∨ y < 0 ∨ h ≤ y) : natx w h x y = -1 := by
  unfold natx; rw [if_neg (by simp only [Bool.and_eq_true, inR_iff]; omega)]
theorem natx_bd (w h x y : Int) : -1 ≤ natx w h x y ∧ natx w h x y < 16 := by
  unfold natx
  split
  · rename_i c
    simp only [Bool.and_eq_true, inR_iff] at c
    have := gok_iff.1 c.1.1
    rcases w4 c.1.1 with rfl | rfl | rfl | rfl <;> omega
  · omega
theorem natx_nd {w h x y : Int} (b : 0 ≤ natx w h x y) : nd w h (natx w h x y) = true := by
  unfold natx at b ⊢
  split
  · rename_i c
    simp only [Bool.and_eq_true, inR_iff] at c
    have := gok_iff.1 c.1.1
    rw [nd_iff, cnt_ok c.1.1]
    rcases w4 c.1.1 with rfl | rfl | rfl | rfl <;> omega
  · rename_i c; rw [if_neg c] at b; omega
def col (w h n : Int) : Int := if nd w h n = true then n % w else -1
def row (w h n : Int) : Int := if nd w h n = true then n / w else -1
def absd (a b : Int) : Int := if a ≤ b then b - a else a - b
def dist (w h a b : Int) : Int := if (nd w h a && nd w h b) = true then absd (a % w) (b % w) + absd (a / w) (b / w) else -1
def diam (w h : Int) : Int := if gok w h = true then w + h - 2 else -1
def nxt (w h n p : Int) : Int :=
  if nd w h n = true then
    (if p = 0 then natx w h (n % w) (n / w - 1) else if p = 1 then natx w h (n % w + 1) (n / w) else if p = 2 then natx w h (n % w) (n / w + 1) else if p = 3 then natx w h (n % w - 1) (n / w) else if p = 4 then n else -1)
  else -1
theorem nxt_bd (w h n p : Int) : -1 ≤ nxt w h n p ∧ nxt w h n p < 16 := by
  unfold nxt
  by_cases d : nd w h n = true
  · have := nd_bd d
    rw [if_pos d]
    repeat' split
    all_goals (first | exact natx_bd _ _ _ _ | omega)
  · rw [if_neg d]; omega
theorem nxt_nd {w h n p : Int} (b : 0 ≤ nxt w h n p) : nd w h n = true ∧ nd w h (nxt w h n p) = true := by
  by_cases d : nd w h n = true
  · refine ⟨d, ?_⟩
    unfold nxt at b ⊢
    rw [if_pos d] at b ⊢
    repeat' split
    all_goals simp_all
    all_goals exact natx_nd b
  · unfold nxt at b; rw [if_neg d] at b; omega
def opp (p : Int) : Int := if p = 4 then 4 else if inR p 0 3 = true then (p + 2) % 4 else -1
def rev (t : Int) : Bool := inR t 0 15 && decide (t % 4 = opp (t / 4))
def leads (w h c : Int) : Bool := inR c 0 (4 * cnt w h - 1) && decide (0 ≤ nxt w h (c / 4) (c % 4))
theorem leads_iff {w h c : Int} : leads w h c = true ↔ (0 ≤ c ∧ c < 4 * cnt w h) ∧ 0 ≤ nxt w h (c / 4) (c % 4) := by unfold leads; rw [Bool.and_eq_true, inR_iff, decide_eq_true_eq]; omega
/-- the broken channels: each leads somewhere, each is above the one before -/
def brOk (w h : Int) : Option Int → List Int → Bool
  | _, [] => true
  | none, c :: r => leads w h c && brOk w h (some c) r
  | some q, c :: r => leads w h c && (decide (q < c) && brOk w h (some c) r)
def meshOk (w h : Int) (l : List Int) : Bool := gok w h && brOk w h none l
def hasC (w h : Int) (l : List Int) (c : Int) : Bool := meshOk w h l && (leads w h c && !decide (c ∈ l))
/-- the standard port of valid arguments -/
def stdQ (r x y u v : Int) : Int :=
  if (if r = 2 then decide (y = v) else if r = 3 then decide (u < x) || decide (y = v) else decide (x ≠ u)) = true then (if u < x then 3 else 1) else (if v < y then 0 else 2)
def stdP (w r n t : Int) : Int := if n = t then 4 else stdQ (if r = 4 then 1 + t % 2 else r) (n % w) (n / w) (t % w) (t / w)
def std (w h r n t : Int) : Int := if (nd w h n && nd w h t && inR r 1 4) = true then stdP w r n t else -1
/-- the rank of a channel by the rule xy -/
def rank (w h r c : Int) : Int :=
  if (decide (r = 1) && leads w h c) = true then (if c % 4 = 1 then c / 4 % w else if c % 4 = 3 then w - 1 - c / 4 % w else if c % 4 = 2 then 10 + c / 4 / w else 10 + h - 1 - c / 4 / w) else -1
theorem apart {w h n t : Int} (d : nd w h n = true) (e : nd w h t = true) (c : ¬ n = t) : ¬ (n % w = t % w ∧ n / w = t / w) := by
  have g := nd_gok d
  rcases w4 g with rfl | rfl | rfl | rfl <;> omega
end Go.Proofs.YtajmccnilhambaaDoor.M
