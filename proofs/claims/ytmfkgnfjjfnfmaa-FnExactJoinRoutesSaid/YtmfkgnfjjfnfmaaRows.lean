/-
  No cell of these rows narrows 'for every input' (looked for: loops, veiled, ifaces, maps, wideKeys, modest, calm, conditions, laid).
  DERIVED. THE GIVEN ROWS OF THIS SEAT. 12 by the template 'for every input the law returns true; each argument reads behind the call as it read before'; 0 by the template 'total and deterministic' (their statements: YtmfkgnfjjfnfmaaTotals.lean).
  GIVEN WITH THE SEED: the statements are not yours to turn. If you find one false, say at which input.
  Laid BY PROGRAM, IN A SANDBOX (cutbox-rows.mjs): the forced cells as the released guide's own fill.sh prints them over the translation 45ba7d3019fadaa4… (all of the seat's roots in one cut). By AI agents, Wed Nov 11 2026. No macro, syntax, notation, axiom, sorry.
-/
import Derived.Test.YtmfkgnfjjfnfmaaChecked
import GoSem.Claim
import GoSem.ClaimJoined
import GoSem.ClaimMapViews
import Derived.JoinedTies
import Derived.KernelRfl
namespace Go.Proofs.Ytmfkgnfjjfnfmaa
/- THE CELL 'sum', in the pinned program and in every row, IS THE sha256 OF THE DUMP (.gsa) THAT YtmfkgnfjjfnfmaaProg.lean LOADS. Nothing in Lean hashes anything: it is a label: what it is worth is what the hold of that sum in a sandbox is worth. -/
noncomputable def Try.pinned : Pinned := { name := "ytmfkgnfjjfnfmaa", sum := "45ba7d3019fadaa4c554f14d584ec9114d59bc3f455479d2ebe22a8aff6791fe", checked := Try.checked }
namespace Rows
def none {H : Type} : Left H := { results := [], args := [] }

/-- 'laws.FnExactAllowsTurns': WHATEVER THE INPUT: true; the input reads as it did. -/
def fnExactAllowsTurnsSpec : ChangeSpec := { name := "fnExactAllowsTurns", fn := fun _ => fun
  | [d1, d2, d3] => { results := [.lit (.bool true)], args := [d1, d2, d3] }
  | _ => none }
def fnExactAllowsTurnsRow : OpenClaim := { program := "ytmfkgnfjjfnfmaa", sum := "45ba7d3019fadaa4c554f14d584ec9114d59bc3f455479d2ebe22a8aff6791fe", func := "loop.example/g00984/laws.FnExactAllowsTurns", spec := "fnExactAllowsTurns", unfollowed := true, recurses := true, apart := false }
def FnExactAllowsTurnsSaid : Prop := fnExactAllowsTurnsRow.holds Try.pinned (OpenSpec.ofChange fnExactAllowsTurnsSpec)

/-- ITS FALSE NEIGHBOUR: 'it returns false'. Refute it at one input. -/
def fnExactAllowsTurnsWrong : ChangeSpec := { name := "fnExactAllowsTurns", fn := fun _ => fun
  | [d1, d2, d3] => { results := [.lit (.bool false)], args := [d1, d2, d3] }
  | _ => none }
def FnExactAllowsTurnsWrongFalsely : Prop := fnExactAllowsTurnsRow.holds Try.pinned (OpenSpec.ofChange fnExactAllowsTurnsWrong)

/-- 'laws.FnExactTurnsOf': WHATEVER THE INPUT: true; the input reads as it did. -/
def fnExactTurnsOfSpec : ChangeSpec := { name := "fnExactTurnsOf", fn := fun _ => fun
  | [d1, d2] => { results := [.lit (.bool true)], args := [d1, d2] }
  | _ => none }
def fnExactTurnsOfRow : OpenClaim := { program := "ytmfkgnfjjfnfmaa", sum := "45ba7d3019fadaa4c554f14d584ec9114d59bc3f455479d2ebe22a8aff6791fe", func := "loop.example/g00984/laws.FnExactTurnsOf", spec := "fnExactTurnsOf", unfollowed := true, recurses := true, apart := false }
def FnExactTurnsOfSaid : Prop := fnExactTurnsOfRow.holds Try.pinned (OpenSpec.ofChange fnExactTurnsOfSpec)

/-- ITS FALSE NEIGHBOUR: 'it returns false'. Refute it at one input. -/
def fnExactTurnsOfWrong : ChangeSpec := { name := "fnExactTurnsOf", fn := fun _ => fun
  | [d1, d2] => { results := [.lit (.bool false)], args := [d1, d2] }
  | _ => none }
def FnExactTurnsOfWrongFalsely : Prop := fnExactTurnsOfRow.holds Try.pinned (OpenSpec.ofChange fnExactTurnsOfWrong)

/-- 'laws.FnExactDependsOf': WHATEVER THE INPUT: true; the input reads as it did. -/
def fnExactDependsOfSpec : ChangeSpec := { name := "fnExactDependsOf", fn := fun _ => fun
  | [d1, d2] => { results := [.lit (.bool true)], args := [d1, d2] }
  | _ => none }
def fnExactDependsOfRow : OpenClaim := { program := "ytmfkgnfjjfnfmaa", sum := "45ba7d3019fadaa4c554f14d584ec9114d59bc3f455479d2ebe22a8aff6791fe", func := "loop.example/g00984/laws.FnExactDependsOf", spec := "fnExactDependsOf", unfollowed := true, recurses := true, apart := false }
def FnExactDependsOfSaid : Prop := fnExactDependsOfRow.holds Try.pinned (OpenSpec.ofChange fnExactDependsOfSpec)

/-- ITS FALSE NEIGHBOUR: 'it returns false'. Refute it at one input. -/
def fnExactDependsOfWrong : ChangeSpec := { name := "fnExactDependsOf", fn := fun _ => fun
  | [d1, d2] => { results := [.lit (.bool false)], args := [d1, d2] }
  | _ => none }
def FnExactDependsOfWrongFalsely : Prop := fnExactDependsOfRow.holds Try.pinned (OpenSpec.ofChange fnExactDependsOfWrong)

/-- 'laws.FnExactIsOrder': WHATEVER THE INPUT: true; the input reads as it did. -/
def fnExactIsOrderSpec : ChangeSpec := { name := "fnExactIsOrder", fn := fun _ => fun
  | [d1, d2] => { results := [.lit (.bool true)], args := [d1, d2] }
  | _ => none }
def fnExactIsOrderRow : OpenClaim := { program := "ytmfkgnfjjfnfmaa", sum := "45ba7d3019fadaa4c554f14d584ec9114d59bc3f455479d2ebe22a8aff6791fe", func := "loop.example/g00984/laws.FnExactIsOrder", spec := "fnExactIsOrder", unfollowed := true, recurses := true, apart := false }
def FnExactIsOrderSaid : Prop := fnExactIsOrderRow.holds Try.pinned (OpenSpec.ofChange fnExactIsOrderSpec)

/-- ITS FALSE NEIGHBOUR: 'it returns false'. Refute it at one input. -/
def fnExactIsOrderWrong : ChangeSpec := { name := "fnExactIsOrder", fn := fun _ => fun
  | [d1, d2] => { results := [.lit (.bool false)], args := [d1, d2] }
  | _ => none }
def FnExactIsOrderWrongFalsely : Prop := fnExactIsOrderRow.holds Try.pinned (OpenSpec.ofChange fnExactIsOrderWrong)

/-- 'laws.FnStandard': WHATEVER THE INPUT: true; the input reads as it did. -/
def fnStandardSpec : ChangeSpec := { name := "fnStandard", fn := fun _ => fun
  | [d] => { results := [.lit (.bool true)], args := [d] }
  | _ => none }
def fnStandardRow : OpenClaim := { program := "ytmfkgnfjjfnfmaa", sum := "45ba7d3019fadaa4c554f14d584ec9114d59bc3f455479d2ebe22a8aff6791fe", func := "loop.example/g00984/laws.FnStandard", spec := "fnStandard", unfollowed := true, recurses := true, apart := false }
def FnStandardSaid : Prop := fnStandardRow.holds Try.pinned (OpenSpec.ofChange fnStandardSpec)

/-- ITS FALSE NEIGHBOUR: 'it returns false'. Refute it at one input. -/
def fnStandardWrong : ChangeSpec := { name := "fnStandard", fn := fun _ => fun
  | [d] => { results := [.lit (.bool false)], args := [d] }
  | _ => none }
def FnStandardWrongFalsely : Prop := fnStandardRow.holds Try.pinned (OpenSpec.ofChange fnStandardWrong)

/-- 'laws.FnLongest': WHATEVER THE INPUT: true; the input reads as it did. -/
def fnLongestSpec : ChangeSpec := { name := "fnLongest", fn := fun _ => fun
  | [d] => { results := [.lit (.bool true)], args := [d] }
  | _ => none }
def fnLongestRow : OpenClaim := { program := "ytmfkgnfjjfnfmaa", sum := "45ba7d3019fadaa4c554f14d584ec9114d59bc3f455479d2ebe22a8aff6791fe", func := "loop.example/g00984/laws.FnLongest", spec := "fnLongest", unfollowed := true, recurses := true, apart := false }
def FnLongestSaid : Prop := fnLongestRow.holds Try.pinned (OpenSpec.ofChange fnLongestSpec)

/-- ITS FALSE NEIGHBOUR: 'it returns false'. Refute it at one input. -/
def fnLongestWrong : ChangeSpec := { name := "fnLongest", fn := fun _ => fun
  | [d] => { results := [.lit (.bool false)], args := [d] }
  | _ => none }
def FnLongestWrongFalsely : Prop := fnLongestRow.holds Try.pinned (OpenSpec.ofChange fnLongestWrong)

/-- 'laws.FnRoutes': WHATEVER THE INPUT: true; the input reads as it did. -/
def fnRoutesSpec : ChangeSpec := { name := "fnRoutes", fn := fun _ => fun
  | [d] => { results := [.lit (.bool true)], args := [d] }
  | _ => none }
def fnRoutesRow : OpenClaim := { program := "ytmfkgnfjjfnfmaa", sum := "45ba7d3019fadaa4c554f14d584ec9114d59bc3f455479d2ebe22a8aff6791fe", func := "loop.example/g00984/laws.FnRoutes", spec := "fnRoutes", apart := false }
def FnRoutesSaid : Prop := fnRoutesRow.holds Try.pinned (OpenSpec.ofChange fnRoutesSpec)

/-- ITS FALSE NEIGHBOUR: 'it returns false'. Refute it at one input. -/
def fnRoutesWrong : ChangeSpec := { name := "fnRoutes", fn := fun _ => fun
  | [d] => { results := [.lit (.bool false)], args := [d] }
  | _ => none }
def FnRoutesWrongFalsely : Prop := fnRoutesRow.holds Try.pinned (OpenSpec.ofChange fnRoutesWrong)

/-- 'laws.FnExactJoinRoutes': WHATEVER THE INPUT: true; the input reads as it did. -/
def fnExactJoinRoutesSpec : ChangeSpec := { name := "fnExactJoinRoutes", fn := fun _ => fun
  | [d1, d2, d3] => { results := [.lit (.bool true)], args := [d1, d2, d3] }
  | _ => none }
def fnExactJoinRoutesRow : OpenClaim := { program := "ytmfkgnfjjfnfmaa", sum := "45ba7d3019fadaa4c554f14d584ec9114d59bc3f455479d2ebe22a8aff6791fe", func := "loop.example/g00984/laws.FnExactJoinRoutes", spec := "fnExactJoinRoutes", apart := false }
def FnExactJoinRoutesSaid : Prop := fnExactJoinRoutesRow.holds Try.pinned (OpenSpec.ofChange fnExactJoinRoutesSpec)

/-- ITS FALSE NEIGHBOUR: 'it returns false'. Refute it at one input. -/
def fnExactJoinRoutesWrong : ChangeSpec := { name := "fnExactJoinRoutes", fn := fun _ => fun
  | [d1, d2, d3] => { results := [.lit (.bool false)], args := [d1, d2, d3] }
  | _ => none }
def FnExactJoinRoutesWrongFalsely : Prop := fnExactJoinRoutesRow.holds Try.pinned (OpenSpec.ofChange fnExactJoinRoutesWrong)

/-- 'laws.FnExactMergeDepends': WHATEVER THE INPUT: true; the input reads as it did. -/
def fnExactMergeDependsSpec : ChangeSpec := { name := "fnExactMergeDepends", fn := fun _ => fun
  | [d1, d2] => { results := [.lit (.bool true)], args := [d1, d2] }
  | _ => none }
def fnExactMergeDependsRow : OpenClaim := { program := "ytmfkgnfjjfnfmaa", sum := "45ba7d3019fadaa4c554f14d584ec9114d59bc3f455479d2ebe22a8aff6791fe", func := "loop.example/g00984/laws.FnExactMergeDepends", spec := "fnExactMergeDepends", unfollowed := true, recurses := true, apart := false }
def FnExactMergeDependsSaid : Prop := fnExactMergeDependsRow.holds Try.pinned (OpenSpec.ofChange fnExactMergeDependsSpec)

/-- ITS FALSE NEIGHBOUR: 'it returns false'. Refute it at one input. -/
def fnExactMergeDependsWrong : ChangeSpec := { name := "fnExactMergeDepends", fn := fun _ => fun
  | [d1, d2] => { results := [.lit (.bool false)], args := [d1, d2] }
  | _ => none }
def FnExactMergeDependsWrongFalsely : Prop := fnExactMergeDependsRow.holds Try.pinned (OpenSpec.ofChange fnExactMergeDependsWrong)

/-- 'laws.FnDepends': WHATEVER THE INPUT: true; the input reads as it did. -/
def fnDependsSpec : ChangeSpec := { name := "fnDepends", fn := fun _ => fun
  | [d] => { results := [.lit (.bool true)], args := [d] }
  | _ => none }
def fnDependsRow : OpenClaim := { program := "ytmfkgnfjjfnfmaa", sum := "45ba7d3019fadaa4c554f14d584ec9114d59bc3f455479d2ebe22a8aff6791fe", func := "loop.example/g00984/laws.FnDepends", spec := "fnDepends", unfollowed := true, recurses := true, apart := false }
def FnDependsSaid : Prop := fnDependsRow.holds Try.pinned (OpenSpec.ofChange fnDependsSpec)

/-- ITS FALSE NEIGHBOUR: 'it returns false'. Refute it at one input. -/
def fnDependsWrong : ChangeSpec := { name := "fnDepends", fn := fun _ => fun
  | [d] => { results := [.lit (.bool false)], args := [d] }
  | _ => none }
def FnDependsWrongFalsely : Prop := fnDependsRow.holds Try.pinned (OpenSpec.ofChange fnDependsWrong)

/-- 'laws.FnTurns': WHATEVER THE INPUT: true; the input reads as it did. -/
def fnTurnsSpec : ChangeSpec := { name := "fnTurns", fn := fun _ => fun
  | [d] => { results := [.lit (.bool true)], args := [d] }
  | _ => none }
def fnTurnsRow : OpenClaim := { program := "ytmfkgnfjjfnfmaa", sum := "45ba7d3019fadaa4c554f14d584ec9114d59bc3f455479d2ebe22a8aff6791fe", func := "loop.example/g00984/laws.FnTurns", spec := "fnTurns", unfollowed := true, recurses := true, apart := false }
def FnTurnsSaid : Prop := fnTurnsRow.holds Try.pinned (OpenSpec.ofChange fnTurnsSpec)

/-- ITS FALSE NEIGHBOUR: 'it returns false'. Refute it at one input. -/
def fnTurnsWrong : ChangeSpec := { name := "fnTurns", fn := fun _ => fun
  | [d] => { results := [.lit (.bool false)], args := [d] }
  | _ => none }
def FnTurnsWrongFalsely : Prop := fnTurnsRow.holds Try.pinned (OpenSpec.ofChange fnTurnsWrong)

/-- 'laws.FnMerged': WHATEVER THE INPUT: true; the input reads as it did. -/
def fnMergedSpec : ChangeSpec := { name := "fnMerged", fn := fun _ => fun
  | [d] => { results := [.lit (.bool true)], args := [d] }
  | _ => none }
def fnMergedRow : OpenClaim := { program := "ytmfkgnfjjfnfmaa", sum := "45ba7d3019fadaa4c554f14d584ec9114d59bc3f455479d2ebe22a8aff6791fe", func := "loop.example/g00984/laws.FnMerged", spec := "fnMerged", unfollowed := true, recurses := true, apart := false }
def FnMergedSaid : Prop := fnMergedRow.holds Try.pinned (OpenSpec.ofChange fnMergedSpec)

/-- ITS FALSE NEIGHBOUR: 'it returns false'. Refute it at one input. -/
def fnMergedWrong : ChangeSpec := { name := "fnMerged", fn := fun _ => fun
  | [d] => { results := [.lit (.bool false)], args := [d] }
  | _ => none }
def FnMergedWrongFalsely : Prop := fnMergedRow.holds Try.pinned (OpenSpec.ofChange fnMergedWrong)

/- THE SECOND FORM. 'bulk': how many values and letters a reading holds, each counted each time it is reached (what is shared counts as often as it is met; a slice's spare places count too). A statement '..UptoSaid' is the law's where the arguments, and the package variables that the reading takes, are together of bulk at most 1048576: NARROWER than '..Said'. Prove '..Said' where nothing that the law and all that it calls make is longer than what came in: it says more and counts as full. Else prove '..UptoSaid'. A law counts once. -/
mutual
def uptoBulk {H : Type} : DataW H → Nat
  | .lit (.string bytes) => bytes.length + 1
  | .lit _ => 1
  | .nil => 1
  | .ptr d => uptoBulk d + 1
  | .slice elems spare => uptoBulkAll elems + uptoBulkAll spare + 1
  | .agg parts => uptoBulkAll parts + 1
  | .iface _ d => uptoBulk d + 1
  | .map entries => uptoBulkEntries entries + 1
  | .held _ => 1
def uptoBulkAll {H : Type} : List (DataW H) → Nat
  | [] => 0
  | d :: r => uptoBulk d + uptoBulkAll r
def uptoBulkEntries {H : Type} : List (Lit × DataW H) → Nat
  | [] => 0
  | x :: r => uptoBulkEntry x + uptoBulkEntries r
def uptoBulkEntry {H : Type} : Lit × DataW H → Nat
  | (.string bytes, d) => bytes.length + uptoBulk d + 1
  | (_, d) => uptoBulk d + 1
 end
def uptoSmall : (H : Type) → List (DataW H) → Bool := fun _ ds => decide (uptoBulkAll ds ≤ 1048576)
def OpenSpec.upto (s : _root_.Go.ChangeSpec) : _root_.Go.OpenSpec := { _root_.Go.OpenSpec.ofChange s with cond := some uptoSmall }

/-- 'laws.FnExactAllowsTurns', WHERE WHAT IT READS IS OF BULK AT MOST 1048576: true; the input reads as it did. -/
def fnExactAllowsTurnsUptoRow : OpenClaim := { program := "ytmfkgnfjjfnfmaa", sum := "45ba7d3019fadaa4c554f14d584ec9114d59bc3f455479d2ebe22a8aff6791fe", func := "loop.example/g00984/laws.FnExactAllowsTurns", spec := "fnExactAllowsTurns", unfollowed := true, recurses := true, apart := false, narrowed := true }
def FnExactAllowsTurnsUptoSaid : Prop := fnExactAllowsTurnsUptoRow.holds Try.pinned (OpenSpec.upto fnExactAllowsTurnsSpec)

/-- 'laws.FnExactTurnsOf', WHERE WHAT IT READS IS OF BULK AT MOST 1048576: true; the input reads as it did. -/
def fnExactTurnsOfUptoRow : OpenClaim := { program := "ytmfkgnfjjfnfmaa", sum := "45ba7d3019fadaa4c554f14d584ec9114d59bc3f455479d2ebe22a8aff6791fe", func := "loop.example/g00984/laws.FnExactTurnsOf", spec := "fnExactTurnsOf", unfollowed := true, recurses := true, apart := false, narrowed := true }
def FnExactTurnsOfUptoSaid : Prop := fnExactTurnsOfUptoRow.holds Try.pinned (OpenSpec.upto fnExactTurnsOfSpec)

/-- 'laws.FnExactDependsOf', WHERE WHAT IT READS IS OF BULK AT MOST 1048576: true; the input reads as it did. -/
def fnExactDependsOfUptoRow : OpenClaim := { program := "ytmfkgnfjjfnfmaa", sum := "45ba7d3019fadaa4c554f14d584ec9114d59bc3f455479d2ebe22a8aff6791fe", func := "loop.example/g00984/laws.FnExactDependsOf", spec := "fnExactDependsOf", unfollowed := true, recurses := true, apart := false, narrowed := true }
def FnExactDependsOfUptoSaid : Prop := fnExactDependsOfUptoRow.holds Try.pinned (OpenSpec.upto fnExactDependsOfSpec)

/-- 'laws.FnExactIsOrder', WHERE WHAT IT READS IS OF BULK AT MOST 1048576: true; the input reads as it did. -/
def fnExactIsOrderUptoRow : OpenClaim := { program := "ytmfkgnfjjfnfmaa", sum := "45ba7d3019fadaa4c554f14d584ec9114d59bc3f455479d2ebe22a8aff6791fe", func := "loop.example/g00984/laws.FnExactIsOrder", spec := "fnExactIsOrder", unfollowed := true, recurses := true, apart := false, narrowed := true }
def FnExactIsOrderUptoSaid : Prop := fnExactIsOrderUptoRow.holds Try.pinned (OpenSpec.upto fnExactIsOrderSpec)

/-- 'laws.FnStandard', WHERE WHAT IT READS IS OF BULK AT MOST 1048576: true; the input reads as it did. -/
def fnStandardUptoRow : OpenClaim := { program := "ytmfkgnfjjfnfmaa", sum := "45ba7d3019fadaa4c554f14d584ec9114d59bc3f455479d2ebe22a8aff6791fe", func := "loop.example/g00984/laws.FnStandard", spec := "fnStandard", unfollowed := true, recurses := true, apart := false, narrowed := true }
def FnStandardUptoSaid : Prop := fnStandardUptoRow.holds Try.pinned (OpenSpec.upto fnStandardSpec)

/-- 'laws.FnLongest', WHERE WHAT IT READS IS OF BULK AT MOST 1048576: true; the input reads as it did. -/
def fnLongestUptoRow : OpenClaim := { program := "ytmfkgnfjjfnfmaa", sum := "45ba7d3019fadaa4c554f14d584ec9114d59bc3f455479d2ebe22a8aff6791fe", func := "loop.example/g00984/laws.FnLongest", spec := "fnLongest", unfollowed := true, recurses := true, apart := false, narrowed := true }
def FnLongestUptoSaid : Prop := fnLongestUptoRow.holds Try.pinned (OpenSpec.upto fnLongestSpec)

/-- 'laws.FnRoutes', WHERE WHAT IT READS IS OF BULK AT MOST 1048576: true; the input reads as it did. -/
def fnRoutesUptoRow : OpenClaim := { program := "ytmfkgnfjjfnfmaa", sum := "45ba7d3019fadaa4c554f14d584ec9114d59bc3f455479d2ebe22a8aff6791fe", func := "loop.example/g00984/laws.FnRoutes", spec := "fnRoutes", apart := false, narrowed := true }
def FnRoutesUptoSaid : Prop := fnRoutesUptoRow.holds Try.pinned (OpenSpec.upto fnRoutesSpec)

/-- 'laws.FnExactJoinRoutes', WHERE WHAT IT READS IS OF BULK AT MOST 1048576: true; the input reads as it did. -/
def fnExactJoinRoutesUptoRow : OpenClaim := { program := "ytmfkgnfjjfnfmaa", sum := "45ba7d3019fadaa4c554f14d584ec9114d59bc3f455479d2ebe22a8aff6791fe", func := "loop.example/g00984/laws.FnExactJoinRoutes", spec := "fnExactJoinRoutes", apart := false, narrowed := true }
def FnExactJoinRoutesUptoSaid : Prop := fnExactJoinRoutesUptoRow.holds Try.pinned (OpenSpec.upto fnExactJoinRoutesSpec)

/-- 'laws.FnExactMergeDepends', WHERE WHAT IT READS IS OF BULK AT MOST 1048576: true; the input reads as it did. -/
def fnExactMergeDependsUptoRow : OpenClaim := { program := "ytmfkgnfjjfnfmaa", sum := "45ba7d3019fadaa4c554f14d584ec9114d59bc3f455479d2ebe22a8aff6791fe", func := "loop.example/g00984/laws.FnExactMergeDepends", spec := "fnExactMergeDepends", unfollowed := true, recurses := true, apart := false, narrowed := true }
def FnExactMergeDependsUptoSaid : Prop := fnExactMergeDependsUptoRow.holds Try.pinned (OpenSpec.upto fnExactMergeDependsSpec)

/-- 'laws.FnDepends', WHERE WHAT IT READS IS OF BULK AT MOST 1048576: true; the input reads as it did. -/
def fnDependsUptoRow : OpenClaim := { program := "ytmfkgnfjjfnfmaa", sum := "45ba7d3019fadaa4c554f14d584ec9114d59bc3f455479d2ebe22a8aff6791fe", func := "loop.example/g00984/laws.FnDepends", spec := "fnDepends", unfollowed := true, recurses := true, apart := false, narrowed := true }
def FnDependsUptoSaid : Prop := fnDependsUptoRow.holds Try.pinned (OpenSpec.upto fnDependsSpec)

/-- 'laws.FnTurns', WHERE WHAT IT READS IS OF BULK AT MOST 1048576: true; the input reads as it did. -/
def fnTurnsUptoRow : OpenClaim := { program := "ytmfkgnfjjfnfmaa", sum := "45ba7d3019fadaa4c554f14d584ec9114d59bc3f455479d2ebe22a8aff6791fe", func := "loop.example/g00984/laws.FnTurns", spec := "fnTurns", unfollowed := true, recurses := true, apart := false, narrowed := true }
def FnTurnsUptoSaid : Prop := fnTurnsUptoRow.holds Try.pinned (OpenSpec.upto fnTurnsSpec)

/-- 'laws.FnMerged', WHERE WHAT IT READS IS OF BULK AT MOST 1048576: true; the input reads as it did. -/
def fnMergedUptoRow : OpenClaim := { program := "ytmfkgnfjjfnfmaa", sum := "45ba7d3019fadaa4c554f14d584ec9114d59bc3f455479d2ebe22a8aff6791fe", func := "loop.example/g00984/laws.FnMerged", spec := "fnMerged", unfollowed := true, recurses := true, apart := false, narrowed := true }
def FnMergedUptoSaid : Prop := fnMergedUptoRow.holds Try.pinned (OpenSpec.upto fnMergedSpec)

end Rows
end Go.Proofs.Ytmfkgnfjjfnfmaa
