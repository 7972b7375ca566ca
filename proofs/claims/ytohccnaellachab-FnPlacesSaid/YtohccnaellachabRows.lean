/-
  No cell of these rows narrows 'for every input' (looked for: loops, veiled, ifaces, maps, wideKeys, modest, calm, conditions, laid).
  DERIVED. THE GIVEN ROWS OF THIS SEAT. 12 by the template 'for every input the law returns true; each argument reads behind the call as it read before'; 0 by the template 'total and deterministic' (their statements: YtohccnaellachabTotals.lean).
  GIVEN WITH THE SEED: the statements are not yours to turn. If you find one false, say at which input.
  Laid BY PROGRAM, IN A SANDBOX (cutbox-rows.mjs): the forced cells as the released guide's own fill.sh prints them over the translation 4e7bbb2ae38d8970… (all of the seat's roots in one cut). By AI agents, Wed Nov 11 2026. No macro, syntax, notation, axiom, sorry.
-/
import Derived.Test.YtohccnaellachabChecked
import GoSem.Claim
import GoSem.ClaimJoined
import GoSem.ClaimMapViews
import Derived.JoinedTies
import Derived.KernelRfl
namespace Go.Proofs.Ytohccnaellachab
/- THE CELL 'sum', in the pinned program and in every row, IS THE sha256 OF THE DUMP (.gsa) THAT YtohccnaellachabProg.lean LOADS. Nothing in Lean hashes anything: it is a label: what it is worth is what the hold of that sum in a sandbox is worth. -/
noncomputable def Try.pinned : Pinned := { name := "ytohccnaellachab", sum := "4e7bbb2ae38d8970b0e930dbf5d9906987723332e9275c6807bc616c8b9500a2", checked := Try.checked }
namespace Rows
def none {H : Type} : Left H := { results := [], args := [] }

/-- 'laws.FnPlaces': WHATEVER THE INPUT: true; the input reads as it did. -/
def fnPlacesSpec : ChangeSpec := { name := "fnPlaces", fn := fun _ => fun
  | [d] => { results := [.lit (.bool true)], args := [d] }
  | _ => none }
def fnPlacesRow : OpenClaim := { program := "ytohccnaellachab", sum := "4e7bbb2ae38d8970b0e930dbf5d9906987723332e9275c6807bc616c8b9500a2", func := "loop.example/g00984/laws.FnPlaces", spec := "fnPlaces", apart := false }
def FnPlacesSaid : Prop := fnPlacesRow.holds Try.pinned (OpenSpec.ofChange fnPlacesSpec)

/-- ITS FALSE NEIGHBOUR: 'it returns false'. Refute it at one input. -/
def fnPlacesWrong : ChangeSpec := { name := "fnPlaces", fn := fun _ => fun
  | [d] => { results := [.lit (.bool false)], args := [d] }
  | _ => none }
def FnPlacesWrongFalsely : Prop := fnPlacesRow.holds Try.pinned (OpenSpec.ofChange fnPlacesWrong)

/-- 'laws.FnExactSuccessorsOf': WHATEVER THE INPUT: true; the input reads as it did. -/
def fnExactSuccessorsOfSpec : ChangeSpec := { name := "fnExactSuccessorsOf", fn := fun _ => fun
  | [d1, d2] => { results := [.lit (.bool true)], args := [d1, d2] }
  | _ => none }
def fnExactSuccessorsOfRow : OpenClaim := { program := "ytohccnaellachab", sum := "4e7bbb2ae38d8970b0e930dbf5d9906987723332e9275c6807bc616c8b9500a2", func := "loop.example/g00984/laws.FnExactSuccessorsOf", spec := "fnExactSuccessorsOf", apart := false }
def FnExactSuccessorsOfSaid : Prop := fnExactSuccessorsOfRow.holds Try.pinned (OpenSpec.ofChange fnExactSuccessorsOfSpec)

/-- ITS FALSE NEIGHBOUR: 'it returns false'. Refute it at one input. -/
def fnExactSuccessorsOfWrong : ChangeSpec := { name := "fnExactSuccessorsOf", fn := fun _ => fun
  | [d1, d2] => { results := [.lit (.bool false)], args := [d1, d2] }
  | _ => none }
def FnExactSuccessorsOfWrongFalsely : Prop := fnExactSuccessorsOfRow.holds Try.pinned (OpenSpec.ofChange fnExactSuccessorsOfWrong)

/-- 'laws.FnNeighbors': WHATEVER THE INPUT: true; the input reads as it did. -/
def fnNeighborsSpec : ChangeSpec := { name := "fnNeighbors", fn := fun _ => fun
  | [d] => { results := [.lit (.bool true)], args := [d] }
  | _ => none }
def fnNeighborsRow : OpenClaim := { program := "ytohccnaellachab", sum := "4e7bbb2ae38d8970b0e930dbf5d9906987723332e9275c6807bc616c8b9500a2", func := "loop.example/g00984/laws.FnNeighbors", spec := "fnNeighbors", apart := false }
def FnNeighborsSaid : Prop := fnNeighborsRow.holds Try.pinned (OpenSpec.ofChange fnNeighborsSpec)

/-- ITS FALSE NEIGHBOUR: 'it returns false'. Refute it at one input. -/
def fnNeighborsWrong : ChangeSpec := { name := "fnNeighbors", fn := fun _ => fun
  | [d] => { results := [.lit (.bool false)], args := [d] }
  | _ => none }
def FnNeighborsWrongFalsely : Prop := fnNeighborsRow.holds Try.pinned (OpenSpec.ofChange fnNeighborsWrong)

/-- 'laws.FnExactShiftDepends': WHATEVER THE INPUT: true; the input reads as it did. -/
def fnExactShiftDependsSpec : ChangeSpec := { name := "fnExactShiftDepends", fn := fun _ => fun
  | [d1, d2] => { results := [.lit (.bool true)], args := [d1, d2] }
  | _ => none }
def fnExactShiftDependsRow : OpenClaim := { program := "ytohccnaellachab", sum := "4e7bbb2ae38d8970b0e930dbf5d9906987723332e9275c6807bc616c8b9500a2", func := "loop.example/g00984/laws.FnExactShiftDepends", spec := "fnExactShiftDepends", apart := false }
def FnExactShiftDependsSaid : Prop := fnExactShiftDependsRow.holds Try.pinned (OpenSpec.ofChange fnExactShiftDependsSpec)

/-- ITS FALSE NEIGHBOUR: 'it returns false'. Refute it at one input. -/
def fnExactShiftDependsWrong : ChangeSpec := { name := "fnExactShiftDepends", fn := fun _ => fun
  | [d1, d2] => { results := [.lit (.bool false)], args := [d1, d2] }
  | _ => none }
def FnExactShiftDependsWrongFalsely : Prop := fnExactShiftDependsRow.holds Try.pinned (OpenSpec.ofChange fnExactShiftDependsWrong)

/-- 'laws.FnExactRankRule': WHATEVER THE INPUT: true; the input reads as it did. -/
def fnExactRankRuleSpec : ChangeSpec := { name := "fnExactRankRule", fn := fun _ => fun
  | [d1, d2, d3] => { results := [.lit (.bool true)], args := [d1, d2, d3] }
  | _ => none }
def fnExactRankRuleRow : OpenClaim := { program := "ytohccnaellachab", sum := "4e7bbb2ae38d8970b0e930dbf5d9906987723332e9275c6807bc616c8b9500a2", func := "loop.example/g00984/laws.FnExactRankRule", spec := "fnExactRankRule", apart := false }
def FnExactRankRuleSaid : Prop := fnExactRankRuleRow.holds Try.pinned (OpenSpec.ofChange fnExactRankRuleSpec)

/-- ITS FALSE NEIGHBOUR: 'it returns false'. Refute it at one input. -/
def fnExactRankRuleWrong : ChangeSpec := { name := "fnExactRankRule", fn := fun _ => fun
  | [d1, d2, d3] => { results := [.lit (.bool false)], args := [d1, d2, d3] }
  | _ => none }
def FnExactRankRuleWrongFalsely : Prop := fnExactRankRuleRow.holds Try.pinned (OpenSpec.ofChange fnExactRankRuleWrong)

/-- 'laws.FnExactIsOrder': WHATEVER THE INPUT: true; the input reads as it did. -/
def fnExactIsOrderSpec : ChangeSpec := { name := "fnExactIsOrder", fn := fun _ => fun
  | [d1, d2] => { results := [.lit (.bool true)], args := [d1, d2] }
  | _ => none }
def fnExactIsOrderRow : OpenClaim := { program := "ytohccnaellachab", sum := "4e7bbb2ae38d8970b0e930dbf5d9906987723332e9275c6807bc616c8b9500a2", func := "loop.example/g00984/laws.FnExactIsOrder", spec := "fnExactIsOrder", unfollowed := true, recurses := true, apart := false }
def FnExactIsOrderSaid : Prop := fnExactIsOrderRow.holds Try.pinned (OpenSpec.ofChange fnExactIsOrderSpec)

/-- ITS FALSE NEIGHBOUR: 'it returns false'. Refute it at one input. -/
def fnExactIsOrderWrong : ChangeSpec := { name := "fnExactIsOrder", fn := fun _ => fun
  | [d1, d2] => { results := [.lit (.bool false)], args := [d1, d2] }
  | _ => none }
def FnExactIsOrderWrongFalsely : Prop := fnExactIsOrderRow.holds Try.pinned (OpenSpec.ofChange fnExactIsOrderWrong)

/-- 'laws.FnExactMeshOk': WHATEVER THE INPUT: true; the input reads as it did. -/
def fnExactMeshOkSpec : ChangeSpec := { name := "fnExactMeshOk", fn := fun _ => fun
  | [d] => { results := [.lit (.bool true)], args := [d] }
  | _ => none }
def fnExactMeshOkRow : OpenClaim := { program := "ytohccnaellachab", sum := "4e7bbb2ae38d8970b0e930dbf5d9906987723332e9275c6807bc616c8b9500a2", func := "loop.example/g00984/laws.FnExactMeshOk", spec := "fnExactMeshOk", apart := false }
def FnExactMeshOkSaid : Prop := fnExactMeshOkRow.holds Try.pinned (OpenSpec.ofChange fnExactMeshOkSpec)

/-- ITS FALSE NEIGHBOUR: 'it returns false'. Refute it at one input. -/
def fnExactMeshOkWrong : ChangeSpec := { name := "fnExactMeshOk", fn := fun _ => fun
  | [d] => { results := [.lit (.bool false)], args := [d] }
  | _ => none }
def FnExactMeshOkWrongFalsely : Prop := fnExactMeshOkRow.holds Try.pinned (OpenSpec.ofChange fnExactMeshOkWrong)

/-- 'laws.FnExactStandardTable': WHATEVER THE INPUT: true; the input reads as it did. -/
def fnExactStandardTableSpec : ChangeSpec := { name := "fnExactStandardTable", fn := fun _ => fun
  | [d1, d2] => { results := [.lit (.bool true)], args := [d1, d2] }
  | _ => none }
def fnExactStandardTableRow : OpenClaim := { program := "ytohccnaellachab", sum := "4e7bbb2ae38d8970b0e930dbf5d9906987723332e9275c6807bc616c8b9500a2", func := "loop.example/g00984/laws.FnExactStandardTable", spec := "fnExactStandardTable", apart := false }
def FnExactStandardTableSaid : Prop := fnExactStandardTableRow.holds Try.pinned (OpenSpec.ofChange fnExactStandardTableSpec)

/-- ITS FALSE NEIGHBOUR: 'it returns false'. Refute it at one input. -/
def fnExactStandardTableWrong : ChangeSpec := { name := "fnExactStandardTable", fn := fun _ => fun
  | [d1, d2] => { results := [.lit (.bool false)], args := [d1, d2] }
  | _ => none }
def FnExactStandardTableWrongFalsely : Prop := fnExactStandardTableRow.holds Try.pinned (OpenSpec.ofChange fnExactStandardTableWrong)

/-- 'laws.FnChannels': WHATEVER THE INPUT: true; the input reads as it did. -/
def fnChannelsSpec : ChangeSpec := { name := "fnChannels", fn := fun _ => fun
  | [d] => { results := [.lit (.bool true)], args := [d] }
  | _ => none }
def fnChannelsRow : OpenClaim := { program := "ytohccnaellachab", sum := "4e7bbb2ae38d8970b0e930dbf5d9906987723332e9275c6807bc616c8b9500a2", func := "loop.example/g00984/laws.FnChannels", spec := "fnChannels", apart := false }
def FnChannelsSaid : Prop := fnChannelsRow.holds Try.pinned (OpenSpec.ofChange fnChannelsSpec)

/-- ITS FALSE NEIGHBOUR: 'it returns false'. Refute it at one input. -/
def fnChannelsWrong : ChangeSpec := { name := "fnChannels", fn := fun _ => fun
  | [d] => { results := [.lit (.bool false)], args := [d] }
  | _ => none }
def FnChannelsWrongFalsely : Prop := fnChannelsRow.holds Try.pinned (OpenSpec.ofChange fnChannelsWrong)

/-- 'laws.FnExactHasChannel': WHATEVER THE INPUT: true; the input reads as it did. -/
def fnExactHasChannelSpec : ChangeSpec := { name := "fnExactHasChannel", fn := fun _ => fun
  | [d1, d2] => { results := [.lit (.bool true)], args := [d1, d2] }
  | _ => none }
def fnExactHasChannelRow : OpenClaim := { program := "ytohccnaellachab", sum := "4e7bbb2ae38d8970b0e930dbf5d9906987723332e9275c6807bc616c8b9500a2", func := "loop.example/g00984/laws.FnExactHasChannel", spec := "fnExactHasChannel", apart := false }
def FnExactHasChannelSaid : Prop := fnExactHasChannelRow.holds Try.pinned (OpenSpec.ofChange fnExactHasChannelSpec)

/-- ITS FALSE NEIGHBOUR: 'it returns false'. Refute it at one input. -/
def fnExactHasChannelWrong : ChangeSpec := { name := "fnExactHasChannel", fn := fun _ => fun
  | [d1, d2] => { results := [.lit (.bool false)], args := [d1, d2] }
  | _ => none }
def FnExactHasChannelWrongFalsely : Prop := fnExactHasChannelRow.holds Try.pinned (OpenSpec.ofChange fnExactHasChannelWrong)

/-- 'laws.FnExactPortAt': WHATEVER THE INPUT: true; the input reads as it did. -/
def fnExactPortAtSpec : ChangeSpec := { name := "fnExactPortAt", fn := fun _ => fun
  | [d1, d2, d3, d4] => { results := [.lit (.bool true)], args := [d1, d2, d3, d4] }
  | _ => none }
def fnExactPortAtRow : OpenClaim := { program := "ytohccnaellachab", sum := "4e7bbb2ae38d8970b0e930dbf5d9906987723332e9275c6807bc616c8b9500a2", func := "loop.example/g00984/laws.FnExactPortAt", spec := "fnExactPortAt", apart := false }
def FnExactPortAtSaid : Prop := fnExactPortAtRow.holds Try.pinned (OpenSpec.ofChange fnExactPortAtSpec)

/-- ITS FALSE NEIGHBOUR: 'it returns false'. Refute it at one input. -/
def fnExactPortAtWrong : ChangeSpec := { name := "fnExactPortAt", fn := fun _ => fun
  | [d1, d2, d3, d4] => { results := [.lit (.bool false)], args := [d1, d2, d3, d4] }
  | _ => none }
def FnExactPortAtWrongFalsely : Prop := fnExactPortAtRow.holds Try.pinned (OpenSpec.ofChange fnExactPortAtWrong)

/-- 'laws.FnExactChannels': WHATEVER THE INPUT: true; the input reads as it did. -/
def fnExactChannelsSpec : ChangeSpec := { name := "fnExactChannels", fn := fun _ => fun
  | [d] => { results := [.lit (.bool true)], args := [d] }
  | _ => none }
def fnExactChannelsRow : OpenClaim := { program := "ytohccnaellachab", sum := "4e7bbb2ae38d8970b0e930dbf5d9906987723332e9275c6807bc616c8b9500a2", func := "loop.example/g00984/laws.FnExactChannels", spec := "fnExactChannels", apart := false }
def FnExactChannelsSaid : Prop := fnExactChannelsRow.holds Try.pinned (OpenSpec.ofChange fnExactChannelsSpec)

/-- ITS FALSE NEIGHBOUR: 'it returns false'. Refute it at one input. -/
def fnExactChannelsWrong : ChangeSpec := { name := "fnExactChannels", fn := fun _ => fun
  | [d] => { results := [.lit (.bool false)], args := [d] }
  | _ => none }
def FnExactChannelsWrongFalsely : Prop := fnExactChannelsRow.holds Try.pinned (OpenSpec.ofChange fnExactChannelsWrong)

/- THE SECOND FORM. 'bulk': how many values and letters a reading holds, each counted each time it is reached (what is shared counts as often as it is met; a slice's spare places count too). A statement '..UptoSaid' is the law's where the arguments, and the package variables that the reading takes, are together of bulk at most 1048576: NARROWER than '..Said'. Prove '..Said' where nothing that the law and all that it calls make is longer than what came in: it says more and counts as full. Else prove '..UptoSaid'. A law counts once. -/
mutual
def uptoBulk {H : Type} : DataW H → Nat
  | .lit (.string bytes) => bytes.length + 1
  | .lit _ => 1
  | .nil => 1
  | .ptr d => uptoBulk d + 1
  | .slice elems spare => uptoBulkAll elems + uptoBulkAll spare + 1
  | .agg parts => uptoBulkAll parts + 1
  | .iface _ d => uptoBulk d + 1
  | .map entries => uptoBulkEntries entries + 1
  | .held _ => 1
def uptoBulkAll {H : Type} : List (DataW H) → Nat
  | [] => 0
  | d :: r => uptoBulk d + uptoBulkAll r
def uptoBulkEntries {H : Type} : List (Lit × DataW H) → Nat
  | [] => 0
  | x :: r => uptoBulkEntry x + uptoBulkEntries r
def uptoBulkEntry {H : Type} : Lit × DataW H → Nat
  | (.string bytes, d) => bytes.length + uptoBulk d + 1
  | (_, d) => uptoBulk d + 1
 end
def uptoSmall : (H : Type) → List (DataW H) → Bool := fun _ ds => decide (uptoBulkAll ds ≤ 1048576)
def OpenSpec.upto (s : _root_.Go.ChangeSpec) : _root_.Go.OpenSpec := { _root_.Go.OpenSpec.ofChange s with cond := some uptoSmall }

/-- 'laws.FnPlaces', WHERE WHAT IT READS IS OF BULK AT MOST 1048576: true; the input reads as it did. -/
def fnPlacesUptoRow : OpenClaim := { program := "ytohccnaellachab", sum := "4e7bbb2ae38d8970b0e930dbf5d9906987723332e9275c6807bc616c8b9500a2", func := "loop.example/g00984/laws.FnPlaces", spec := "fnPlaces", apart := false, narrowed := true }
def FnPlacesUptoSaid : Prop := fnPlacesUptoRow.holds Try.pinned (OpenSpec.upto fnPlacesSpec)

/-- 'laws.FnExactSuccessorsOf', WHERE WHAT IT READS IS OF BULK AT MOST 1048576: true; the input reads as it did. -/
def fnExactSuccessorsOfUptoRow : OpenClaim := { program := "ytohccnaellachab", sum := "4e7bbb2ae38d8970b0e930dbf5d9906987723332e9275c6807bc616c8b9500a2", func := "loop.example/g00984/laws.FnExactSuccessorsOf", spec := "fnExactSuccessorsOf", apart := false, narrowed := true }
def FnExactSuccessorsOfUptoSaid : Prop := fnExactSuccessorsOfUptoRow.holds Try.pinned (OpenSpec.upto fnExactSuccessorsOfSpec)

/-- 'laws.FnNeighbors', WHERE WHAT IT READS IS OF BULK AT MOST 1048576: true; the input reads as it did. -/
def fnNeighborsUptoRow : OpenClaim := { program := "ytohccnaellachab", sum := "4e7bbb2ae38d8970b0e930dbf5d9906987723332e9275c6807bc616c8b9500a2", func := "loop.example/g00984/laws.FnNeighbors", spec := "fnNeighbors", apart := false, narrowed := true }
def FnNeighborsUptoSaid : Prop := fnNeighborsUptoRow.holds Try.pinned (OpenSpec.upto fnNeighborsSpec)

/-- 'laws.FnExactShiftDepends', WHERE WHAT IT READS IS OF BULK AT MOST 1048576: true; the input reads as it did. -/
def fnExactShiftDependsUptoRow : OpenClaim := { program := "ytohccnaellachab", sum := "4e7bbb2ae38d8970b0e930dbf5d9906987723332e9275c6807bc616c8b9500a2", func := "loop.example/g00984/laws.FnExactShiftDepends", spec := "fnExactShiftDepends", apart := false, narrowed := true }
def FnExactShiftDependsUptoSaid : Prop := fnExactShiftDependsUptoRow.holds Try.pinned (OpenSpec.upto fnExactShiftDependsSpec)

/-- 'laws.FnExactRankRule', WHERE WHAT IT READS IS OF BULK AT MOST 1048576: true; the input reads as it did. -/
def fnExactRankRuleUptoRow : OpenClaim := { program := "ytohccnaellachab", sum := "4e7bbb2ae38d8970b0e930dbf5d9906987723332e9275c6807bc616c8b9500a2", func := "loop.example/g00984/laws.FnExactRankRule", spec := "fnExactRankRule", apart := false, narrowed := true }
def FnExactRankRuleUptoSaid : Prop := fnExactRankRuleUptoRow.holds Try.pinned (OpenSpec.upto fnExactRankRuleSpec)

/-- 'laws.FnExactIsOrder', WHERE WHAT IT READS IS OF BULK AT MOST 1048576: true; the input reads as it did. -/
def fnExactIsOrderUptoRow : OpenClaim := { program := "ytohccnaellachab", sum := "4e7bbb2ae38d8970b0e930dbf5d9906987723332e9275c6807bc616c8b9500a2", func := "loop.example/g00984/laws.FnExactIsOrder", spec := "fnExactIsOrder", unfollowed := true, recurses := true, apart := false, narrowed := true }
def FnExactIsOrderUptoSaid : Prop := fnExactIsOrderUptoRow.holds Try.pinned (OpenSpec.upto fnExactIsOrderSpec)

/-- 'laws.FnExactMeshOk', WHERE WHAT IT READS IS OF BULK AT MOST 1048576: true; the input reads as it did. -/
def fnExactMeshOkUptoRow : OpenClaim := { program := "ytohccnaellachab", sum := "4e7bbb2ae38d8970b0e930dbf5d9906987723332e9275c6807bc616c8b9500a2", func := "loop.example/g00984/laws.FnExactMeshOk", spec := "fnExactMeshOk", apart := false, narrowed := true }
def FnExactMeshOkUptoSaid : Prop := fnExactMeshOkUptoRow.holds Try.pinned (OpenSpec.upto fnExactMeshOkSpec)

/-- 'laws.FnExactStandardTable', WHERE WHAT IT READS IS OF BULK AT MOST 1048576: true; the input reads as it did. -/
def fnExactStandardTableUptoRow : OpenClaim := { program := "ytohccnaellachab", sum := "4e7bbb2ae38d8970b0e930dbf5d9906987723332e9275c6807bc616c8b9500a2", func := "loop.example/g00984/laws.FnExactStandardTable", spec := "fnExactStandardTable", apart := false, narrowed := true }
def FnExactStandardTableUptoSaid : Prop := fnExactStandardTableUptoRow.holds Try.pinned (OpenSpec.upto fnExactStandardTableSpec)

/-- 'laws.FnChannels', WHERE WHAT IT READS IS OF BULK AT MOST 1048576: true; the input reads as it did. -/
def fnChannelsUptoRow : OpenClaim := { program := "ytohccnaellachab", sum := "4e7bbb2ae38d8970b0e930dbf5d9906987723332e9275c6807bc616c8b9500a2", func := "loop.example/g00984/laws.FnChannels", spec := "fnChannels", apart := false, narrowed := true }
def FnChannelsUptoSaid : Prop := fnChannelsUptoRow.holds Try.pinned (OpenSpec.upto fnChannelsSpec)

/-- 'laws.FnExactHasChannel', WHERE WHAT IT READS IS OF BULK AT MOST 1048576: true; the input reads as it did. -/
def fnExactHasChannelUptoRow : OpenClaim := { program := "ytohccnaellachab", sum := "4e7bbb2ae38d8970b0e930dbf5d9906987723332e9275c6807bc616c8b9500a2", func := "loop.example/g00984/laws.FnExactHasChannel", spec := "fnExactHasChannel", apart := false, narrowed := true }
def FnExactHasChannelUptoSaid : Prop := fnExactHasChannelUptoRow.holds Try.pinned (OpenSpec.upto fnExactHasChannelSpec)

/-- 'laws.FnExactPortAt', WHERE WHAT IT READS IS OF BULK AT MOST 1048576: true; the input reads as it did. -/
def fnExactPortAtUptoRow : OpenClaim := { program := "ytohccnaellachab", sum := "4e7bbb2ae38d8970b0e930dbf5d9906987723332e9275c6807bc616c8b9500a2", func := "loop.example/g00984/laws.FnExactPortAt", spec := "fnExactPortAt", apart := false, narrowed := true }
def FnExactPortAtUptoSaid : Prop := fnExactPortAtUptoRow.holds Try.pinned (OpenSpec.upto fnExactPortAtSpec)

/-- 'laws.FnExactChannels', WHERE WHAT IT READS IS OF BULK AT MOST 1048576: true; the input reads as it did. -/
def fnExactChannelsUptoRow : OpenClaim := { program := "ytohccnaellachab", sum := "4e7bbb2ae38d8970b0e930dbf5d9906987723332e9275c6807bc616c8b9500a2", func := "loop.example/g00984/laws.FnExactChannels", spec := "fnExactChannels", apart := false, narrowed := true }
def FnExactChannelsUptoSaid : Prop := fnExactChannelsUptoRow.holds Try.pinned (OpenSpec.upto fnExactChannelsSpec)

end Rows
end Go.Proofs.Ytohccnaellachab
