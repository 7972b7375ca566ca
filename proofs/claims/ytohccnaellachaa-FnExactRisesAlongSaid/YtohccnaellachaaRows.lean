/-
  No cell of these rows narrows 'for every input' (looked for: loops, veiled, ifaces, maps, wideKeys, modest, calm, conditions, laid).
  DERIVED. THE GIVEN ROWS OF THIS SEAT. 12 by the template 'for every input the law returns true; each argument reads behind the call as it read before'; 0 by the template 'total and deterministic' (their statements: YtohccnaellachaaTotals.lean).
  GIVEN WITH THE SEED: the statements are not yours to turn. If you find one false, say at which input.
  Laid BY PROGRAM, IN A SANDBOX (cutbox-rows.mjs): the forced cells as the released guide's own fill.sh prints them over the translation dbc819bd4b4f95c6… (all of the seat's roots in one cut). By AI agents, Wed Nov 11 2026. No macro, syntax, notation, axiom, sorry.
-/
import Derived.Test.YtohccnaellachaaChecked
import GoSem.Claim
import GoSem.ClaimJoined
import GoSem.ClaimMapViews
import Derived.JoinedTies
import Derived.KernelRfl
namespace Go.Proofs.Ytohccnaellachaa
/- THE CELL 'sum', in the pinned program and in every row, IS THE sha256 OF THE DUMP (.gsa) THAT YtohccnaellachaaProg.lean LOADS. Nothing in Lean hashes anything: it is a label: what it is worth is what the hold of that sum in a sandbox is worth. -/
noncomputable def Try.pinned : Pinned := { name := "ytohccnaellachaa", sum := "dbc819bd4b4f95c6a9128ef52e7258a6f18fbaf3a1f7e3484e5f4835c841967b", checked := Try.checked }
namespace Rows
def none {H : Type} : Left H := { results := [], args := [] }

/-- 'laws.FnExactTurnName': WHATEVER THE INPUT: true; the input reads as it did. -/
def fnExactTurnNameSpec : ChangeSpec := { name := "fnExactTurnName", fn := fun _ => fun
  | [d] => { results := [.lit (.bool true)], args := [d] }
  | _ => none }
def fnExactTurnNameRow : OpenClaim := { program := "ytohccnaellachaa", sum := "dbc819bd4b4f95c6a9128ef52e7258a6f18fbaf3a1f7e3484e5f4835c841967b", func := "loop.example/g00984/laws.FnExactTurnName", spec := "fnExactTurnName", apart := false }
def FnExactTurnNameSaid : Prop := fnExactTurnNameRow.holds Try.pinned (OpenSpec.ofChange fnExactTurnNameSpec)

/-- ITS FALSE NEIGHBOUR: 'it returns false'. Refute it at one input. -/
def fnExactTurnNameWrong : ChangeSpec := { name := "fnExactTurnName", fn := fun _ => fun
  | [d] => { results := [.lit (.bool false)], args := [d] }
  | _ => none }
def FnExactTurnNameWrongFalsely : Prop := fnExactTurnNameRow.holds Try.pinned (OpenSpec.ofChange fnExactTurnNameWrong)

/-- 'laws.FnExactRisesAlong': WHATEVER THE INPUT: true; the input reads as it did. -/
def fnExactRisesAlongSpec : ChangeSpec := { name := "fnExactRisesAlong", fn := fun _ => fun
  | [d1, d2] => { results := [.lit (.bool true)], args := [d1, d2] }
  | _ => none }
def fnExactRisesAlongRow : OpenClaim := { program := "ytohccnaellachaa", sum := "dbc819bd4b4f95c6a9128ef52e7258a6f18fbaf3a1f7e3484e5f4835c841967b", func := "loop.example/g00984/laws.FnExactRisesAlong", spec := "fnExactRisesAlong", apart := false }
def FnExactRisesAlongSaid : Prop := fnExactRisesAlongRow.holds Try.pinned (OpenSpec.ofChange fnExactRisesAlongSpec)

/-- ITS FALSE NEIGHBOUR: 'it returns false'. Refute it at one input. -/
def fnExactRisesAlongWrong : ChangeSpec := { name := "fnExactRisesAlong", fn := fun _ => fun
  | [d1, d2] => { results := [.lit (.bool false)], args := [d1, d2] }
  | _ => none }
def FnExactRisesAlongWrongFalsely : Prop := fnExactRisesAlongRow.holds Try.pinned (OpenSpec.ofChange fnExactRisesAlongWrong)

/-- 'laws.FnExactColumnOf': WHATEVER THE INPUT: true; the input reads as it did. -/
def fnExactColumnOfSpec : ChangeSpec := { name := "fnExactColumnOf", fn := fun _ => fun
  | [d1, d2] => { results := [.lit (.bool true)], args := [d1, d2] }
  | _ => none }
def fnExactColumnOfRow : OpenClaim := { program := "ytohccnaellachaa", sum := "dbc819bd4b4f95c6a9128ef52e7258a6f18fbaf3a1f7e3484e5f4835c841967b", func := "loop.example/g00984/laws.FnExactColumnOf", spec := "fnExactColumnOf", apart := false }
def FnExactColumnOfSaid : Prop := fnExactColumnOfRow.holds Try.pinned (OpenSpec.ofChange fnExactColumnOfSpec)

/-- ITS FALSE NEIGHBOUR: 'it returns false'. Refute it at one input. -/
def fnExactColumnOfWrong : ChangeSpec := { name := "fnExactColumnOf", fn := fun _ => fun
  | [d1, d2] => { results := [.lit (.bool false)], args := [d1, d2] }
  | _ => none }
def FnExactColumnOfWrongFalsely : Prop := fnExactColumnOfRow.holds Try.pinned (OpenSpec.ofChange fnExactColumnOfWrong)

/-- 'laws.FnExactRowOf': WHATEVER THE INPUT: true; the input reads as it did. -/
def fnExactRowOfSpec : ChangeSpec := { name := "fnExactRowOf", fn := fun _ => fun
  | [d1, d2] => { results := [.lit (.bool true)], args := [d1, d2] }
  | _ => none }
def fnExactRowOfRow : OpenClaim := { program := "ytohccnaellachaa", sum := "dbc819bd4b4f95c6a9128ef52e7258a6f18fbaf3a1f7e3484e5f4835c841967b", func := "loop.example/g00984/laws.FnExactRowOf", spec := "fnExactRowOf", apart := false }
def FnExactRowOfSaid : Prop := fnExactRowOfRow.holds Try.pinned (OpenSpec.ofChange fnExactRowOfSpec)

/-- ITS FALSE NEIGHBOUR: 'it returns false'. Refute it at one input. -/
def fnExactRowOfWrong : ChangeSpec := { name := "fnExactRowOf", fn := fun _ => fun
  | [d1, d2] => { results := [.lit (.bool false)], args := [d1, d2] }
  | _ => none }
def FnExactRowOfWrongFalsely : Prop := fnExactRowOfRow.holds Try.pinned (OpenSpec.ofChange fnExactRowOfWrong)

/-- 'laws.FnExactDistance': WHATEVER THE INPUT: true; the input reads as it did. -/
def fnExactDistanceSpec : ChangeSpec := { name := "fnExactDistance", fn := fun _ => fun
  | [d1, d2, d3] => { results := [.lit (.bool true)], args := [d1, d2, d3] }
  | _ => none }
def fnExactDistanceRow : OpenClaim := { program := "ytohccnaellachaa", sum := "dbc819bd4b4f95c6a9128ef52e7258a6f18fbaf3a1f7e3484e5f4835c841967b", func := "loop.example/g00984/laws.FnExactDistance", spec := "fnExactDistance", apart := false }
def FnExactDistanceSaid : Prop := fnExactDistanceRow.holds Try.pinned (OpenSpec.ofChange fnExactDistanceSpec)

/-- ITS FALSE NEIGHBOUR: 'it returns false'. Refute it at one input. -/
def fnExactDistanceWrong : ChangeSpec := { name := "fnExactDistance", fn := fun _ => fun
  | [d1, d2, d3] => { results := [.lit (.bool false)], args := [d1, d2, d3] }
  | _ => none }
def FnExactDistanceWrongFalsely : Prop := fnExactDistanceRow.holds Try.pinned (OpenSpec.ofChange fnExactDistanceWrong)

/-- 'laws.FnExactDecodeHex': WHATEVER THE INPUT: true; the input reads as it did. -/
def fnExactDecodeHexSpec : ChangeSpec := { name := "fnExactDecodeHex", fn := fun _ => fun
  | [d] => { results := [.lit (.bool true)], args := [d] }
  | _ => none }
def fnExactDecodeHexRow : OpenClaim := { program := "ytohccnaellachaa", sum := "dbc819bd4b4f95c6a9128ef52e7258a6f18fbaf3a1f7e3484e5f4835c841967b", func := "loop.example/g00984/laws.FnExactDecodeHex", spec := "fnExactDecodeHex", inPlace := ["internal/bytealg.IndexByteString"], apart := false }
def FnExactDecodeHexSaid : Prop := fnExactDecodeHexRow.holds Try.pinned (OpenSpec.ofChange fnExactDecodeHexSpec)

/-- ITS FALSE NEIGHBOUR: 'it returns false'. Refute it at one input. -/
def fnExactDecodeHexWrong : ChangeSpec := { name := "fnExactDecodeHex", fn := fun _ => fun
  | [d] => { results := [.lit (.bool false)], args := [d] }
  | _ => none }
def FnExactDecodeHexWrongFalsely : Prop := fnExactDecodeHexRow.holds Try.pinned (OpenSpec.ofChange fnExactDecodeHexWrong)

/-- 'laws.FnClamped': WHATEVER THE INPUT: true; the input reads as it did. -/
def fnClampedSpec : ChangeSpec := { name := "fnClamped", fn := fun _ => fun
  | [d] => { results := [.lit (.bool true)], args := [d] }
  | _ => none }
def fnClampedRow : OpenClaim := { program := "ytohccnaellachaa", sum := "dbc819bd4b4f95c6a9128ef52e7258a6f18fbaf3a1f7e3484e5f4835c841967b", func := "loop.example/g00984/laws.FnClamped", spec := "fnClamped", apart := false }
def FnClampedSaid : Prop := fnClampedRow.holds Try.pinned (OpenSpec.ofChange fnClampedSpec)

/-- ITS FALSE NEIGHBOUR: 'it returns false'. Refute it at one input. -/
def fnClampedWrong : ChangeSpec := { name := "fnClamped", fn := fun _ => fun
  | [d] => { results := [.lit (.bool false)], args := [d] }
  | _ => none }
def FnClampedWrongFalsely : Prop := fnClampedRow.holds Try.pinned (OpenSpec.ofChange fnClampedWrong)

/-- 'laws.FnExactDifferingEntries': WHATEVER THE INPUT: true; the input reads as it did. -/
def fnExactDifferingEntriesSpec : ChangeSpec := { name := "fnExactDifferingEntries", fn := fun _ => fun
  | [d1, d2] => { results := [.lit (.bool true)], args := [d1, d2] }
  | _ => none }
def fnExactDifferingEntriesRow : OpenClaim := { program := "ytohccnaellachaa", sum := "dbc819bd4b4f95c6a9128ef52e7258a6f18fbaf3a1f7e3484e5f4835c841967b", func := "loop.example/g00984/laws.FnExactDifferingEntries", spec := "fnExactDifferingEntries", apart := false }
def FnExactDifferingEntriesSaid : Prop := fnExactDifferingEntriesRow.holds Try.pinned (OpenSpec.ofChange fnExactDifferingEntriesSpec)

/-- ITS FALSE NEIGHBOUR: 'it returns false'. Refute it at one input. -/
def fnExactDifferingEntriesWrong : ChangeSpec := { name := "fnExactDifferingEntries", fn := fun _ => fun
  | [d1, d2] => { results := [.lit (.bool false)], args := [d1, d2] }
  | _ => none }
def FnExactDifferingEntriesWrongFalsely : Prop := fnExactDifferingEntriesRow.holds Try.pinned (OpenSpec.ofChange fnExactDifferingEntriesWrong)

/-- 'laws.FnExactDependsOk': WHATEVER THE INPUT: true; the input reads as it did. -/
def fnExactDependsOkSpec : ChangeSpec := { name := "fnExactDependsOk", fn := fun _ => fun
  | [d] => { results := [.lit (.bool true)], args := [d] }
  | _ => none }
def fnExactDependsOkRow : OpenClaim := { program := "ytohccnaellachaa", sum := "dbc819bd4b4f95c6a9128ef52e7258a6f18fbaf3a1f7e3484e5f4835c841967b", func := "loop.example/g00984/laws.FnExactDependsOk", spec := "fnExactDependsOk", apart := false }
def FnExactDependsOkSaid : Prop := fnExactDependsOkRow.holds Try.pinned (OpenSpec.ofChange fnExactDependsOkSpec)

/-- ITS FALSE NEIGHBOUR: 'it returns false'. Refute it at one input. -/
def fnExactDependsOkWrong : ChangeSpec := { name := "fnExactDependsOk", fn := fun _ => fun
  | [d] => { results := [.lit (.bool false)], args := [d] }
  | _ => none }
def FnExactDependsOkWrongFalsely : Prop := fnExactDependsOkRow.holds Try.pinned (OpenSpec.ofChange fnExactDependsOkWrong)

/-- 'laws.FnExactNextNode': WHATEVER THE INPUT: true; the input reads as it did. -/
def fnExactNextNodeSpec : ChangeSpec := { name := "fnExactNextNode", fn := fun _ => fun
  | [d1, d2, d3] => { results := [.lit (.bool true)], args := [d1, d2, d3] }
  | _ => none }
def fnExactNextNodeRow : OpenClaim := { program := "ytohccnaellachaa", sum := "dbc819bd4b4f95c6a9128ef52e7258a6f18fbaf3a1f7e3484e5f4835c841967b", func := "loop.example/g00984/laws.FnExactNextNode", spec := "fnExactNextNode", apart := false }
def FnExactNextNodeSaid : Prop := fnExactNextNodeRow.holds Try.pinned (OpenSpec.ofChange fnExactNextNodeSpec)

/-- ITS FALSE NEIGHBOUR: 'it returns false'. Refute it at one input. -/
def fnExactNextNodeWrong : ChangeSpec := { name := "fnExactNextNode", fn := fun _ => fun
  | [d1, d2, d3] => { results := [.lit (.bool false)], args := [d1, d2, d3] }
  | _ => none }
def FnExactNextNodeWrongFalsely : Prop := fnExactNextNodeRow.holds Try.pinned (OpenSpec.ofChange fnExactNextNodeWrong)

/-- 'laws.FnExactTurnsOfRule': WHATEVER THE INPUT: true; the input reads as it did. -/
def fnExactTurnsOfRuleSpec : ChangeSpec := { name := "fnExactTurnsOfRule", fn := fun _ => fun
  | [d] => { results := [.lit (.bool true)], args := [d] }
  | _ => none }
def fnExactTurnsOfRuleRow : OpenClaim := { program := "ytohccnaellachaa", sum := "dbc819bd4b4f95c6a9128ef52e7258a6f18fbaf3a1f7e3484e5f4835c841967b", func := "loop.example/g00984/laws.FnExactTurnsOfRule", spec := "fnExactTurnsOfRule", apart := false }
def FnExactTurnsOfRuleSaid : Prop := fnExactTurnsOfRuleRow.holds Try.pinned (OpenSpec.ofChange fnExactTurnsOfRuleSpec)

/-- ITS FALSE NEIGHBOUR: 'it returns false'. Refute it at one input. -/
def fnExactTurnsOfRuleWrong : ChangeSpec := { name := "fnExactTurnsOfRule", fn := fun _ => fun
  | [d] => { results := [.lit (.bool false)], args := [d] }
  | _ => none }
def FnExactTurnsOfRuleWrongFalsely : Prop := fnExactTurnsOfRuleRow.holds Try.pinned (OpenSpec.ofChange fnExactTurnsOfRuleWrong)

/-- 'laws.FnExactStandardPort': WHATEVER THE INPUT: true; the input reads as it did. -/
def fnExactStandardPortSpec : ChangeSpec := { name := "fnExactStandardPort", fn := fun _ => fun
  | [d1, d2, d3, d4] => { results := [.lit (.bool true)], args := [d1, d2, d3, d4] }
  | _ => none }
def fnExactStandardPortRow : OpenClaim := { program := "ytohccnaellachaa", sum := "dbc819bd4b4f95c6a9128ef52e7258a6f18fbaf3a1f7e3484e5f4835c841967b", func := "loop.example/g00984/laws.FnExactStandardPort", spec := "fnExactStandardPort", apart := false }
def FnExactStandardPortSaid : Prop := fnExactStandardPortRow.holds Try.pinned (OpenSpec.ofChange fnExactStandardPortSpec)

/-- ITS FALSE NEIGHBOUR: 'it returns false'. Refute it at one input. -/
def fnExactStandardPortWrong : ChangeSpec := { name := "fnExactStandardPort", fn := fun _ => fun
  | [d1, d2, d3, d4] => { results := [.lit (.bool false)], args := [d1, d2, d3, d4] }
  | _ => none }
def FnExactStandardPortWrongFalsely : Prop := fnExactStandardPortRow.holds Try.pinned (OpenSpec.ofChange fnExactStandardPortWrong)

/- THE SECOND FORM. 'bulk': how many values and letters a reading holds, each counted each time it is reached (what is shared counts as often as it is met; a slice's spare places count too). A statement '..UptoSaid' is the law's where the arguments, and the package variables that the reading takes, are together of bulk at most 1048576: NARROWER than '..Said'. Prove '..Said' where nothing that the law and all that it calls make is longer than what came in: it says more and counts as full. Else prove '..UptoSaid'. A law counts once. -/
mutual
def uptoBulk {H : Type} : DataW H → Nat
  | .lit (.string bytes) => bytes.length + 1
  | .lit _ => 1
  | .nil => 1
  | .ptr d => uptoBulk d + 1
  | .slice elems spare => uptoBulkAll elems + uptoBulkAll spare + 1
  | .agg parts => uptoBulkAll parts + 1
  | .iface _ d => uptoBulk d + 1
  | .map entries => uptoBulkEntries entries + 1
  | .held _ => 1
def uptoBulkAll {H : Type} : List (DataW H) → Nat
  | [] => 0
  | d :: r => uptoBulk d + uptoBulkAll r
def uptoBulkEntries {H : Type} : List (Lit × DataW H) → Nat
  | [] => 0
  | x :: r => uptoBulkEntry x + uptoBulkEntries r
def uptoBulkEntry {H : Type} : Lit × DataW H → Nat
  | (.string bytes, d) => bytes.length + uptoBulk d + 1
  | (_, d) => uptoBulk d + 1
 end
def uptoSmall : (H : Type) → List (DataW H) → Bool := fun _ ds => decide (uptoBulkAll ds ≤ 1048576)
def OpenSpec.upto (s : _root_.Go.ChangeSpec) : _root_.Go.OpenSpec := { _root_.Go.OpenSpec.ofChange s with cond := some uptoSmall }

/-- 'laws.FnExactTurnName', WHERE WHAT IT READS IS OF BULK AT MOST 1048576: true; the input reads as it did. -/
def fnExactTurnNameUptoRow : OpenClaim := { program := "ytohccnaellachaa", sum := "dbc819bd4b4f95c6a9128ef52e7258a6f18fbaf3a1f7e3484e5f4835c841967b", func := "loop.example/g00984/laws.FnExactTurnName", spec := "fnExactTurnName", apart := false, narrowed := true }
def FnExactTurnNameUptoSaid : Prop := fnExactTurnNameUptoRow.holds Try.pinned (OpenSpec.upto fnExactTurnNameSpec)

/-- 'laws.FnExactRisesAlong', WHERE WHAT IT READS IS OF BULK AT MOST 1048576: true; the input reads as it did. -/
def fnExactRisesAlongUptoRow : OpenClaim := { program := "ytohccnaellachaa", sum := "dbc819bd4b4f95c6a9128ef52e7258a6f18fbaf3a1f7e3484e5f4835c841967b", func := "loop.example/g00984/laws.FnExactRisesAlong", spec := "fnExactRisesAlong", apart := false, narrowed := true }
def FnExactRisesAlongUptoSaid : Prop := fnExactRisesAlongUptoRow.holds Try.pinned (OpenSpec.upto fnExactRisesAlongSpec)

/-- 'laws.FnExactColumnOf', WHERE WHAT IT READS IS OF BULK AT MOST 1048576: true; the input reads as it did. -/
def fnExactColumnOfUptoRow : OpenClaim := { program := "ytohccnaellachaa", sum := "dbc819bd4b4f95c6a9128ef52e7258a6f18fbaf3a1f7e3484e5f4835c841967b", func := "loop.example/g00984/laws.FnExactColumnOf", spec := "fnExactColumnOf", apart := false, narrowed := true }
def FnExactColumnOfUptoSaid : Prop := fnExactColumnOfUptoRow.holds Try.pinned (OpenSpec.upto fnExactColumnOfSpec)

/-- 'laws.FnExactRowOf', WHERE WHAT IT READS IS OF BULK AT MOST 1048576: true; the input reads as it did. -/
def fnExactRowOfUptoRow : OpenClaim := { program := "ytohccnaellachaa", sum := "dbc819bd4b4f95c6a9128ef52e7258a6f18fbaf3a1f7e3484e5f4835c841967b", func := "loop.example/g00984/laws.FnExactRowOf", spec := "fnExactRowOf", apart := false, narrowed := true }
def FnExactRowOfUptoSaid : Prop := fnExactRowOfUptoRow.holds Try.pinned (OpenSpec.upto fnExactRowOfSpec)

/-- 'laws.FnExactDistance', WHERE WHAT IT READS IS OF BULK AT MOST 1048576: true; the input reads as it did. -/
def fnExactDistanceUptoRow : OpenClaim := { program := "ytohccnaellachaa", sum := "dbc819bd4b4f95c6a9128ef52e7258a6f18fbaf3a1f7e3484e5f4835c841967b", func := "loop.example/g00984/laws.FnExactDistance", spec := "fnExactDistance", apart := false, narrowed := true }
def FnExactDistanceUptoSaid : Prop := fnExactDistanceUptoRow.holds Try.pinned (OpenSpec.upto fnExactDistanceSpec)

/-- 'laws.FnExactDecodeHex', WHERE WHAT IT READS IS OF BULK AT MOST 1048576: true; the input reads as it did. -/
def fnExactDecodeHexUptoRow : OpenClaim := { program := "ytohccnaellachaa", sum := "dbc819bd4b4f95c6a9128ef52e7258a6f18fbaf3a1f7e3484e5f4835c841967b", func := "loop.example/g00984/laws.FnExactDecodeHex", spec := "fnExactDecodeHex", inPlace := ["internal/bytealg.IndexByteString"], apart := false, narrowed := true }
def FnExactDecodeHexUptoSaid : Prop := fnExactDecodeHexUptoRow.holds Try.pinned (OpenSpec.upto fnExactDecodeHexSpec)

/-- 'laws.FnClamped', WHERE WHAT IT READS IS OF BULK AT MOST 1048576: true; the input reads as it did. -/
def fnClampedUptoRow : OpenClaim := { program := "ytohccnaellachaa", sum := "dbc819bd4b4f95c6a9128ef52e7258a6f18fbaf3a1f7e3484e5f4835c841967b", func := "loop.example/g00984/laws.FnClamped", spec := "fnClamped", apart := false, narrowed := true }
def FnClampedUptoSaid : Prop := fnClampedUptoRow.holds Try.pinned (OpenSpec.upto fnClampedSpec)

/-- 'laws.FnExactDifferingEntries', WHERE WHAT IT READS IS OF BULK AT MOST 1048576: true; the input reads as it did. -/
def fnExactDifferingEntriesUptoRow : OpenClaim := { program := "ytohccnaellachaa", sum := "dbc819bd4b4f95c6a9128ef52e7258a6f18fbaf3a1f7e3484e5f4835c841967b", func := "loop.example/g00984/laws.FnExactDifferingEntries", spec := "fnExactDifferingEntries", apart := false, narrowed := true }
def FnExactDifferingEntriesUptoSaid : Prop := fnExactDifferingEntriesUptoRow.holds Try.pinned (OpenSpec.upto fnExactDifferingEntriesSpec)

/-- 'laws.FnExactDependsOk', WHERE WHAT IT READS IS OF BULK AT MOST 1048576: true; the input reads as it did. -/
def fnExactDependsOkUptoRow : OpenClaim := { program := "ytohccnaellachaa", sum := "dbc819bd4b4f95c6a9128ef52e7258a6f18fbaf3a1f7e3484e5f4835c841967b", func := "loop.example/g00984/laws.FnExactDependsOk", spec := "fnExactDependsOk", apart := false, narrowed := true }
def FnExactDependsOkUptoSaid : Prop := fnExactDependsOkUptoRow.holds Try.pinned (OpenSpec.upto fnExactDependsOkSpec)

/-- 'laws.FnExactNextNode', WHERE WHAT IT READS IS OF BULK AT MOST 1048576: true; the input reads as it did. -/
def fnExactNextNodeUptoRow : OpenClaim := { program := "ytohccnaellachaa", sum := "dbc819bd4b4f95c6a9128ef52e7258a6f18fbaf3a1f7e3484e5f4835c841967b", func := "loop.example/g00984/laws.FnExactNextNode", spec := "fnExactNextNode", apart := false, narrowed := true }
def FnExactNextNodeUptoSaid : Prop := fnExactNextNodeUptoRow.holds Try.pinned (OpenSpec.upto fnExactNextNodeSpec)

/-- 'laws.FnExactTurnsOfRule', WHERE WHAT IT READS IS OF BULK AT MOST 1048576: true; the input reads as it did. -/
def fnExactTurnsOfRuleUptoRow : OpenClaim := { program := "ytohccnaellachaa", sum := "dbc819bd4b4f95c6a9128ef52e7258a6f18fbaf3a1f7e3484e5f4835c841967b", func := "loop.example/g00984/laws.FnExactTurnsOfRule", spec := "fnExactTurnsOfRule", apart := false, narrowed := true }
def FnExactTurnsOfRuleUptoSaid : Prop := fnExactTurnsOfRuleUptoRow.holds Try.pinned (OpenSpec.upto fnExactTurnsOfRuleSpec)

/-- 'laws.FnExactStandardPort', WHERE WHAT IT READS IS OF BULK AT MOST 1048576: true; the input reads as it did. -/
def fnExactStandardPortUptoRow : OpenClaim := { program := "ytohccnaellachaa", sum := "dbc819bd4b4f95c6a9128ef52e7258a6f18fbaf3a1f7e3484e5f4835c841967b", func := "loop.example/g00984/laws.FnExactStandardPort", spec := "fnExactStandardPort", apart := false, narrowed := true }
def FnExactStandardPortUptoSaid : Prop := fnExactStandardPortUptoRow.holds Try.pinned (OpenSpec.upto fnExactStandardPortSpec)

end Rows
end Go.Proofs.Ytohccnaellachaa
