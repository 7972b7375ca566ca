/-
  No cell of these rows narrows 'for every input' (looked for: loops, veiled, ifaces, maps, wideKeys, modest, calm, conditions, laid).
  DERIVED. THE GIVEN ROWS OF THIS SEAT. 6 by the template 'for every input the law returns true; each argument reads behind the call as it read before'; 0 by the template 'total and deterministic' (their statements: YtcombeiiagjjiabTotals.lean).
  GIVEN WITH THE SEED: the statements are not yours to turn. If you find one false, say at which input.
  Laid BY PROGRAM, IN A SANDBOX (cutbox-rows.mjs): the forced cells as the released guide's own fill.sh prints them over the translation 9ca05322b372e96d… (all of the seat's roots in one cut). By AI agents, Wed Nov 11 2026. No macro, syntax, notation, axiom, sorry.
-/
import Derived.Test.YtcombeiiagjjiabChecked
import GoSem.Claim
import GoSem.ClaimJoined
import GoSem.ClaimMapViews
import Derived.JoinedTies
import Derived.KernelRfl
namespace Go.Proofs.Ytcombeiiagjjiab
/- THE CELL 'sum', in the pinned program and in every row, IS THE sha256 OF THE DUMP (.gsa) THAT YtcombeiiagjjiabProg.lean LOADS. Nothing in Lean hashes anything: it is a label: what it is worth is what the hold of that sum in a sandbox is worth. -/
noncomputable def Try.pinned : Pinned := { name := "ytcombeiiagjjiab", sum := "9ca05322b372e96d2ce235f61e629ba1f5e0a8da6d2b66cb2bdd278bf68b5b66", checked := Try.checked }
namespace Rows
def none {H : Type} : Left H := { results := [], args := [] }

/-- 'laws.FnExactIsReversal': WHATEVER THE INPUT: true; the input reads as it did. -/
def fnExactIsReversalSpec : ChangeSpec := { name := "fnExactIsReversal", fn := fun _ => fun
  | [d] => { results := [.lit (.bool true)], args := [d] }
  | _ => none }
def fnExactIsReversalRow : OpenClaim := { program := "ytcombeiiagjjiab", sum := "9ca05322b372e96d2ce235f61e629ba1f5e0a8da6d2b66cb2bdd278bf68b5b66", func := "loop.example/g00984/laws.FnExactIsReversal", spec := "fnExactIsReversal", apart := false }
def FnExactIsReversalSaid : Prop := fnExactIsReversalRow.holds Try.pinned (OpenSpec.ofChange fnExactIsReversalSpec)

/-- ITS FALSE NEIGHBOUR: 'it returns false'. Refute it at one input. -/
def fnExactIsReversalWrong : ChangeSpec := { name := "fnExactIsReversal", fn := fun _ => fun
  | [d] => { results := [.lit (.bool false)], args := [d] }
  | _ => none }
def FnExactIsReversalWrongFalsely : Prop := fnExactIsReversalRow.holds Try.pinned (OpenSpec.ofChange fnExactIsReversalWrong)

/-- 'laws.FnExactAllowsTurns': WHATEVER THE INPUT: true; the input reads as it did. -/
def fnExactAllowsTurnsSpec : ChangeSpec := { name := "fnExactAllowsTurns", fn := fun _ => fun
  | [d1, d2, d3] => { results := [.lit (.bool true)], args := [d1, d2, d3] }
  | _ => none }
def fnExactAllowsTurnsRow : OpenClaim := { program := "ytcombeiiagjjiab", sum := "9ca05322b372e96d2ce235f61e629ba1f5e0a8da6d2b66cb2bdd278bf68b5b66", func := "loop.example/g00984/laws.FnExactAllowsTurns", spec := "fnExactAllowsTurns", unfollowed := true, recurses := true, apart := false }
def FnExactAllowsTurnsSaid : Prop := fnExactAllowsTurnsRow.holds Try.pinned (OpenSpec.ofChange fnExactAllowsTurnsSpec)

/-- ITS FALSE NEIGHBOUR: 'it returns false'. Refute it at one input. -/
def fnExactAllowsTurnsWrong : ChangeSpec := { name := "fnExactAllowsTurns", fn := fun _ => fun
  | [d1, d2, d3] => { results := [.lit (.bool false)], args := [d1, d2, d3] }
  | _ => none }
def FnExactAllowsTurnsWrongFalsely : Prop := fnExactAllowsTurnsRow.holds Try.pinned (OpenSpec.ofChange fnExactAllowsTurnsWrong)

/-- 'laws.FnExactDiameter': WHATEVER THE INPUT: true; the input reads as it did. -/
def fnExactDiameterSpec : ChangeSpec := { name := "fnExactDiameter", fn := fun _ => fun
  | [d] => { results := [.lit (.bool true)], args := [d] }
  | _ => none }
def fnExactDiameterRow : OpenClaim := { program := "ytcombeiiagjjiab", sum := "9ca05322b372e96d2ce235f61e629ba1f5e0a8da6d2b66cb2bdd278bf68b5b66", func := "loop.example/g00984/laws.FnExactDiameter", spec := "fnExactDiameter", apart := false }
def FnExactDiameterSaid : Prop := fnExactDiameterRow.holds Try.pinned (OpenSpec.ofChange fnExactDiameterSpec)

/-- ITS FALSE NEIGHBOUR: 'it returns false'. Refute it at one input. -/
def fnExactDiameterWrong : ChangeSpec := { name := "fnExactDiameter", fn := fun _ => fun
  | [d] => { results := [.lit (.bool false)], args := [d] }
  | _ => none }
def FnExactDiameterWrongFalsely : Prop := fnExactDiameterRow.holds Try.pinned (OpenSpec.ofChange fnExactDiameterWrong)

/-- 'laws.FnExactNodeAt': WHATEVER THE INPUT: true; the input reads as it did. -/
def fnExactNodeAtSpec : ChangeSpec := { name := "fnExactNodeAt", fn := fun _ => fun
  | [d1, d2, d3] => { results := [.lit (.bool true)], args := [d1, d2, d3] }
  | _ => none }
def fnExactNodeAtRow : OpenClaim := { program := "ytcombeiiagjjiab", sum := "9ca05322b372e96d2ce235f61e629ba1f5e0a8da6d2b66cb2bdd278bf68b5b66", func := "loop.example/g00984/laws.FnExactNodeAt", spec := "fnExactNodeAt", apart := false }
def FnExactNodeAtSaid : Prop := fnExactNodeAtRow.holds Try.pinned (OpenSpec.ofChange fnExactNodeAtSpec)

/-- ITS FALSE NEIGHBOUR: 'it returns false'. Refute it at one input. -/
def fnExactNodeAtWrong : ChangeSpec := { name := "fnExactNodeAt", fn := fun _ => fun
  | [d1, d2, d3] => { results := [.lit (.bool false)], args := [d1, d2, d3] }
  | _ => none }
def FnExactNodeAtWrongFalsely : Prop := fnExactNodeAtRow.holds Try.pinned (OpenSpec.ofChange fnExactNodeAtWrong)

/-- 'laws.FnExactNodeCount': WHATEVER THE INPUT: true; the input reads as it did. -/
def fnExactNodeCountSpec : ChangeSpec := { name := "fnExactNodeCount", fn := fun _ => fun
  | [d] => { results := [.lit (.bool true)], args := [d] }
  | _ => none }
def fnExactNodeCountRow : OpenClaim := { program := "ytcombeiiagjjiab", sum := "9ca05322b372e96d2ce235f61e629ba1f5e0a8da6d2b66cb2bdd278bf68b5b66", func := "loop.example/g00984/laws.FnExactNodeCount", spec := "fnExactNodeCount", apart := false }
def FnExactNodeCountSaid : Prop := fnExactNodeCountRow.holds Try.pinned (OpenSpec.ofChange fnExactNodeCountSpec)

/-- ITS FALSE NEIGHBOUR: 'it returns false'. Refute it at one input. -/
def fnExactNodeCountWrong : ChangeSpec := { name := "fnExactNodeCount", fn := fun _ => fun
  | [d] => { results := [.lit (.bool false)], args := [d] }
  | _ => none }
def FnExactNodeCountWrongFalsely : Prop := fnExactNodeCountRow.holds Try.pinned (OpenSpec.ofChange fnExactNodeCountWrong)

/-- 'laws.FnExactEncodeHex': WHATEVER THE INPUT: true; the input reads as it did. -/
def fnExactEncodeHexSpec : ChangeSpec := { name := "fnExactEncodeHex", fn := fun _ => fun
  | [d] => { results := [.lit (.bool true)], args := [d] }
  | _ => none }
def fnExactEncodeHexRow : OpenClaim := { program := "ytcombeiiagjjiab", sum := "9ca05322b372e96d2ce235f61e629ba1f5e0a8da6d2b66cb2bdd278bf68b5b66", func := "loop.example/g00984/laws.FnExactEncodeHex", spec := "fnExactEncodeHex", apart := false }
def FnExactEncodeHexSaid : Prop := fnExactEncodeHexRow.holds Try.pinned (OpenSpec.ofChange fnExactEncodeHexSpec)

/-- ITS FALSE NEIGHBOUR: 'it returns false'. Refute it at one input. -/
def fnExactEncodeHexWrong : ChangeSpec := { name := "fnExactEncodeHex", fn := fun _ => fun
  | [d] => { results := [.lit (.bool false)], args := [d] }
  | _ => none }
def FnExactEncodeHexWrongFalsely : Prop := fnExactEncodeHexRow.holds Try.pinned (OpenSpec.ofChange fnExactEncodeHexWrong)

/- THE SECOND FORM. 'bulk': how many values and letters a reading holds, each counted each time it is reached (what is shared counts as often as it is met; a slice's spare places count too). A statement '..UptoSaid' is the law's where the arguments, and the package variables that the reading takes, are together of bulk at most 1048576: NARROWER than '..Said'. Prove '..Said' where nothing that the law and all that it calls make is longer than what came in: it says more and counts as full. Else prove '..UptoSaid'. A law counts once. -/
mutual
def uptoBulk {H : Type} : DataW H → Nat
  | .lit (.string bytes) => bytes.length + 1
  | .lit _ => 1
  | .nil => 1
  | .ptr d => uptoBulk d + 1
  | .slice elems spare => uptoBulkAll elems + uptoBulkAll spare + 1
  | .agg parts => uptoBulkAll parts + 1
  | .iface _ d => uptoBulk d + 1
  | .map entries => uptoBulkEntries entries + 1
  | .held _ => 1
def uptoBulkAll {H : Type} : List (DataW H) → Nat
  | [] => 0
  | d :: r => uptoBulk d + uptoBulkAll r
def uptoBulkEntries {H : Type} : List (Lit × DataW H) → Nat
  | [] => 0
  | x :: r => uptoBulkEntry x + uptoBulkEntries r
def uptoBulkEntry {H : Type} : Lit × DataW H → Nat
  | (.string bytes, d) => bytes.length + uptoBulk d + 1
  | (_, d) => uptoBulk d + 1
 end
def uptoSmall : (H : Type) → List (DataW H) → Bool := fun _ ds => decide (uptoBulkAll ds ≤ 1048576)
def OpenSpec.upto (s : _root_.Go.ChangeSpec) : _root_.Go.OpenSpec := { _root_.Go.OpenSpec.ofChange s with cond := some uptoSmall }

/-- 'laws.FnExactIsReversal', WHERE WHAT IT READS IS OF BULK AT MOST 1048576: true; the input reads as it did. -/
def fnExactIsReversalUptoRow : OpenClaim := { program := "ytcombeiiagjjiab", sum := "9ca05322b372e96d2ce235f61e629ba1f5e0a8da6d2b66cb2bdd278bf68b5b66", func := "loop.example/g00984/laws.FnExactIsReversal", spec := "fnExactIsReversal", apart := false, narrowed := true }
def FnExactIsReversalUptoSaid : Prop := fnExactIsReversalUptoRow.holds Try.pinned (OpenSpec.upto fnExactIsReversalSpec)

/-- 'laws.FnExactAllowsTurns', WHERE WHAT IT READS IS OF BULK AT MOST 1048576: true; the input reads as it did. -/
def fnExactAllowsTurnsUptoRow : OpenClaim := { program := "ytcombeiiagjjiab", sum := "9ca05322b372e96d2ce235f61e629ba1f5e0a8da6d2b66cb2bdd278bf68b5b66", func := "loop.example/g00984/laws.FnExactAllowsTurns", spec := "fnExactAllowsTurns", unfollowed := true, recurses := true, apart := false, narrowed := true }
def FnExactAllowsTurnsUptoSaid : Prop := fnExactAllowsTurnsUptoRow.holds Try.pinned (OpenSpec.upto fnExactAllowsTurnsSpec)

/-- 'laws.FnExactDiameter', WHERE WHAT IT READS IS OF BULK AT MOST 1048576: true; the input reads as it did. -/
def fnExactDiameterUptoRow : OpenClaim := { program := "ytcombeiiagjjiab", sum := "9ca05322b372e96d2ce235f61e629ba1f5e0a8da6d2b66cb2bdd278bf68b5b66", func := "loop.example/g00984/laws.FnExactDiameter", spec := "fnExactDiameter", apart := false, narrowed := true }
def FnExactDiameterUptoSaid : Prop := fnExactDiameterUptoRow.holds Try.pinned (OpenSpec.upto fnExactDiameterSpec)

/-- 'laws.FnExactNodeAt', WHERE WHAT IT READS IS OF BULK AT MOST 1048576: true; the input reads as it did. -/
def fnExactNodeAtUptoRow : OpenClaim := { program := "ytcombeiiagjjiab", sum := "9ca05322b372e96d2ce235f61e629ba1f5e0a8da6d2b66cb2bdd278bf68b5b66", func := "loop.example/g00984/laws.FnExactNodeAt", spec := "fnExactNodeAt", apart := false, narrowed := true }
def FnExactNodeAtUptoSaid : Prop := fnExactNodeAtUptoRow.holds Try.pinned (OpenSpec.upto fnExactNodeAtSpec)

/-- 'laws.FnExactNodeCount', WHERE WHAT IT READS IS OF BULK AT MOST 1048576: true; the input reads as it did. -/
def fnExactNodeCountUptoRow : OpenClaim := { program := "ytcombeiiagjjiab", sum := "9ca05322b372e96d2ce235f61e629ba1f5e0a8da6d2b66cb2bdd278bf68b5b66", func := "loop.example/g00984/laws.FnExactNodeCount", spec := "fnExactNodeCount", apart := false, narrowed := true }
def FnExactNodeCountUptoSaid : Prop := fnExactNodeCountUptoRow.holds Try.pinned (OpenSpec.upto fnExactNodeCountSpec)

/-- 'laws.FnExactEncodeHex', WHERE WHAT IT READS IS OF BULK AT MOST 1048576: true; the input reads as it did. -/
def fnExactEncodeHexUptoRow : OpenClaim := { program := "ytcombeiiagjjiab", sum := "9ca05322b372e96d2ce235f61e629ba1f5e0a8da6d2b66cb2bdd278bf68b5b66", func := "loop.example/g00984/laws.FnExactEncodeHex", spec := "fnExactEncodeHex", apart := false, narrowed := true }
def FnExactEncodeHexUptoSaid : Prop := fnExactEncodeHexUptoRow.holds Try.pinned (OpenSpec.upto fnExactEncodeHexSpec)

end Rows
end Go.Proofs.Ytcombeiiagjjiab
