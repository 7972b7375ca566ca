/-
  No cell of these rows narrows 'for every input' (looked for: loops, veiled, ifaces, maps, wideKeys, modest, calm, conditions, laid).
  DERIVED. THE GIVEN ROWS OF THIS SEAT. 6 by the template 'for every input the law returns true; each argument reads behind the call as it read before'; 0 by the template 'total and deterministic' (their statements: YtcombeiiagjjiaaTotals.lean).
  GIVEN WITH THE SEED: the statements are not yours to turn. If you find one false, say at which input.
  Laid BY PROGRAM, IN A SANDBOX (cutbox-rows.mjs): the forced cells as the released guide's own fill.sh prints them over the translation cd1c40766d1daf36… (all of the seat's roots in one cut). By AI agents, Wed Nov 11 2026. No macro, syntax, notation, axiom, sorry.
-/
import Derived.Test.YtcombeiiagjjiaaChecked
import GoSem.Claim
import GoSem.ClaimJoined
import GoSem.ClaimMapViews
import Derived.JoinedTies
import Derived.KernelRfl
namespace Go.Proofs.Ytcombeiiagjjiaa
/- THE CELL 'sum', in the pinned program and in every row, IS THE sha256 OF THE DUMP (.gsa) THAT YtcombeiiagjjiaaProg.lean LOADS. Nothing in Lean hashes anything: it is a label: what it is worth is what the hold of that sum in a sandbox is worth. -/
noncomputable def Try.pinned : Pinned := { name := "ytcombeiiagjjiaa", sum := "cd1c40766d1daf36bc81ba1a635fbd4514339398115047fe8b19721337262206", checked := Try.checked }
namespace Rows
def none {H : Type} : Left H := { results := [], args := [] }

/-- 'laws.FnExactConstants': WHATEVER THE INPUT: true; the input reads as it did. -/
def fnExactConstantsSpec : ChangeSpec := { name := "fnExactConstants", fn := fun _ => fun
  | [] => { results := [.lit (.bool true)], args := [] }
  | _ => none }
def fnExactConstantsRow : OpenClaim := { program := "ytcombeiiagjjiaa", sum := "cd1c40766d1daf36bc81ba1a635fbd4514339398115047fe8b19721337262206", func := "loop.example/g00984/laws.FnExactConstants", spec := "fnExactConstants", apart := false }
def FnExactConstantsSaid : Prop := fnExactConstantsRow.holds Try.pinned (OpenSpec.ofChange fnExactConstantsSpec)

/-- ITS FALSE NEIGHBOUR: 'it returns false'. Refute it at one input. -/
def fnExactConstantsWrong : ChangeSpec := { name := "fnExactConstants", fn := fun _ => fun
  | [] => { results := [.lit (.bool false)], args := [] }
  | _ => none }
def FnExactConstantsWrongFalsely : Prop := fnExactConstantsRow.holds Try.pinned (OpenSpec.ofChange fnExactConstantsWrong)

/-- 'laws.FnExactClamp': WHATEVER THE INPUT: true; the input reads as it did. -/
def fnExactClampSpec : ChangeSpec := { name := "fnExactClamp", fn := fun _ => fun
  | [d1, d2, d3] => { results := [.lit (.bool true)], args := [d1, d2, d3] }
  | _ => none }
def fnExactClampRow : OpenClaim := { program := "ytcombeiiagjjiaa", sum := "cd1c40766d1daf36bc81ba1a635fbd4514339398115047fe8b19721337262206", func := "loop.example/g00984/laws.FnExactClamp", spec := "fnExactClamp", apart := false }
def FnExactClampSaid : Prop := fnExactClampRow.holds Try.pinned (OpenSpec.ofChange fnExactClampSpec)

/-- ITS FALSE NEIGHBOUR: 'it returns false'. Refute it at one input. -/
def fnExactClampWrong : ChangeSpec := { name := "fnExactClamp", fn := fun _ => fun
  | [d1, d2, d3] => { results := [.lit (.bool false)], args := [d1, d2, d3] }
  | _ => none }
def FnExactClampWrongFalsely : Prop := fnExactClampRow.holds Try.pinned (OpenSpec.ofChange fnExactClampWrong)

/-- 'laws.FnExactGridOk': WHATEVER THE INPUT: true; the input reads as it did. -/
def fnExactGridOkSpec : ChangeSpec := { name := "fnExactGridOk", fn := fun _ => fun
  | [d] => { results := [.lit (.bool true)], args := [d] }
  | _ => none }
def fnExactGridOkRow : OpenClaim := { program := "ytcombeiiagjjiaa", sum := "cd1c40766d1daf36bc81ba1a635fbd4514339398115047fe8b19721337262206", func := "loop.example/g00984/laws.FnExactGridOk", spec := "fnExactGridOk", apart := false }
def FnExactGridOkSaid : Prop := fnExactGridOkRow.holds Try.pinned (OpenSpec.ofChange fnExactGridOkSpec)

/-- ITS FALSE NEIGHBOUR: 'it returns false'. Refute it at one input. -/
def fnExactGridOkWrong : ChangeSpec := { name := "fnExactGridOk", fn := fun _ => fun
  | [d] => { results := [.lit (.bool false)], args := [d] }
  | _ => none }
def FnExactGridOkWrongFalsely : Prop := fnExactGridOkRow.holds Try.pinned (OpenSpec.ofChange fnExactGridOkWrong)

/-- 'laws.FnExactPortName': WHATEVER THE INPUT: true; the input reads as it did. -/
def fnExactPortNameSpec : ChangeSpec := { name := "fnExactPortName", fn := fun _ => fun
  | [d] => { results := [.lit (.bool true)], args := [d] }
  | _ => none }
def fnExactPortNameRow : OpenClaim := { program := "ytcombeiiagjjiaa", sum := "cd1c40766d1daf36bc81ba1a635fbd4514339398115047fe8b19721337262206", func := "loop.example/g00984/laws.FnExactPortName", spec := "fnExactPortName", apart := false }
def FnExactPortNameSaid : Prop := fnExactPortNameRow.holds Try.pinned (OpenSpec.ofChange fnExactPortNameSpec)

/-- ITS FALSE NEIGHBOUR: 'it returns false'. Refute it at one input. -/
def fnExactPortNameWrong : ChangeSpec := { name := "fnExactPortName", fn := fun _ => fun
  | [d] => { results := [.lit (.bool false)], args := [d] }
  | _ => none }
def FnExactPortNameWrongFalsely : Prop := fnExactPortNameRow.holds Try.pinned (OpenSpec.ofChange fnExactPortNameWrong)

/-- 'laws.FnExactRuleName': WHATEVER THE INPUT: true; the input reads as it did. -/
def fnExactRuleNameSpec : ChangeSpec := { name := "fnExactRuleName", fn := fun _ => fun
  | [d] => { results := [.lit (.bool true)], args := [d] }
  | _ => none }
def fnExactRuleNameRow : OpenClaim := { program := "ytcombeiiagjjiaa", sum := "cd1c40766d1daf36bc81ba1a635fbd4514339398115047fe8b19721337262206", func := "loop.example/g00984/laws.FnExactRuleName", spec := "fnExactRuleName", apart := false }
def FnExactRuleNameSaid : Prop := fnExactRuleNameRow.holds Try.pinned (OpenSpec.ofChange fnExactRuleNameSpec)

/-- ITS FALSE NEIGHBOUR: 'it returns false'. Refute it at one input. -/
def fnExactRuleNameWrong : ChangeSpec := { name := "fnExactRuleName", fn := fun _ => fun
  | [d] => { results := [.lit (.bool false)], args := [d] }
  | _ => none }
def FnExactRuleNameWrongFalsely : Prop := fnExactRuleNameRow.holds Try.pinned (OpenSpec.ofChange fnExactRuleNameWrong)

/-- 'laws.FnExactOpposite': WHATEVER THE INPUT: true; the input reads as it did. -/
def fnExactOppositeSpec : ChangeSpec := { name := "fnExactOpposite", fn := fun _ => fun
  | [d] => { results := [.lit (.bool true)], args := [d] }
  | _ => none }
def fnExactOppositeRow : OpenClaim := { program := "ytcombeiiagjjiaa", sum := "cd1c40766d1daf36bc81ba1a635fbd4514339398115047fe8b19721337262206", func := "loop.example/g00984/laws.FnExactOpposite", spec := "fnExactOpposite", apart := false }
def FnExactOppositeSaid : Prop := fnExactOppositeRow.holds Try.pinned (OpenSpec.ofChange fnExactOppositeSpec)

/-- ITS FALSE NEIGHBOUR: 'it returns false'. Refute it at one input. -/
def fnExactOppositeWrong : ChangeSpec := { name := "fnExactOpposite", fn := fun _ => fun
  | [d] => { results := [.lit (.bool false)], args := [d] }
  | _ => none }
def FnExactOppositeWrongFalsely : Prop := fnExactOppositeRow.holds Try.pinned (OpenSpec.ofChange fnExactOppositeWrong)

/- THE SECOND FORM. 'bulk': how many values and letters a reading holds, each counted each time it is reached (what is shared counts as often as it is met; a slice's spare places count too). A statement '..UptoSaid' is the law's where the arguments, and the package variables that the reading takes, are together of bulk at most 1048576: NARROWER than '..Said'. Prove '..Said' where nothing that the law and all that it calls make is longer than what came in: it says more and counts as full. Else prove '..UptoSaid'. A law counts once. -/
mutual
def uptoBulk {H : Type} : DataW H → Nat
  | .lit (.string bytes) => bytes.length + 1
  | .lit _ => 1
  | .nil => 1
  | .ptr d => uptoBulk d + 1
  | .slice elems spare => uptoBulkAll elems + uptoBulkAll spare + 1
  | .agg parts => uptoBulkAll parts + 1
  | .iface _ d => uptoBulk d + 1
  | .map entries => uptoBulkEntries entries + 1
  | .held _ => 1
def uptoBulkAll {H : Type} : List (DataW H) → Nat
  | [] => 0
  | d :: r => uptoBulk d + uptoBulkAll r
def uptoBulkEntries {H : Type} : List (Lit × DataW H) → Nat
  | [] => 0
  | x :: r => uptoBulkEntry x + uptoBulkEntries r
def uptoBulkEntry {H : Type} : Lit × DataW H → Nat
  | (.string bytes, d) => bytes.length + uptoBulk d + 1
  | (_, d) => uptoBulk d + 1
 end
def uptoSmall : (H : Type) → List (DataW H) → Bool := fun _ ds => decide (uptoBulkAll ds ≤ 1048576)
def OpenSpec.upto (s : _root_.Go.ChangeSpec) : _root_.Go.OpenSpec := { _root_.Go.OpenSpec.ofChange s with cond := some uptoSmall }

/-- 'laws.FnExactConstants', WHERE WHAT IT READS IS OF BULK AT MOST 1048576: true; the input reads as it did. -/
def fnExactConstantsUptoRow : OpenClaim := { program := "ytcombeiiagjjiaa", sum := "cd1c40766d1daf36bc81ba1a635fbd4514339398115047fe8b19721337262206", func := "loop.example/g00984/laws.FnExactConstants", spec := "fnExactConstants", apart := false, narrowed := true }
def FnExactConstantsUptoSaid : Prop := fnExactConstantsUptoRow.holds Try.pinned (OpenSpec.upto fnExactConstantsSpec)

/-- 'laws.FnExactClamp', WHERE WHAT IT READS IS OF BULK AT MOST 1048576: true; the input reads as it did. -/
def fnExactClampUptoRow : OpenClaim := { program := "ytcombeiiagjjiaa", sum := "cd1c40766d1daf36bc81ba1a635fbd4514339398115047fe8b19721337262206", func := "loop.example/g00984/laws.FnExactClamp", spec := "fnExactClamp", apart := false, narrowed := true }
def FnExactClampUptoSaid : Prop := fnExactClampUptoRow.holds Try.pinned (OpenSpec.upto fnExactClampSpec)

/-- 'laws.FnExactGridOk', WHERE WHAT IT READS IS OF BULK AT MOST 1048576: true; the input reads as it did. -/
def fnExactGridOkUptoRow : OpenClaim := { program := "ytcombeiiagjjiaa", sum := "cd1c40766d1daf36bc81ba1a635fbd4514339398115047fe8b19721337262206", func := "loop.example/g00984/laws.FnExactGridOk", spec := "fnExactGridOk", apart := false, narrowed := true }
def FnExactGridOkUptoSaid : Prop := fnExactGridOkUptoRow.holds Try.pinned (OpenSpec.upto fnExactGridOkSpec)

/-- 'laws.FnExactPortName', WHERE WHAT IT READS IS OF BULK AT MOST 1048576: true; the input reads as it did. -/
def fnExactPortNameUptoRow : OpenClaim := { program := "ytcombeiiagjjiaa", sum := "cd1c40766d1daf36bc81ba1a635fbd4514339398115047fe8b19721337262206", func := "loop.example/g00984/laws.FnExactPortName", spec := "fnExactPortName", apart := false, narrowed := true }
def FnExactPortNameUptoSaid : Prop := fnExactPortNameUptoRow.holds Try.pinned (OpenSpec.upto fnExactPortNameSpec)

/-- 'laws.FnExactRuleName', WHERE WHAT IT READS IS OF BULK AT MOST 1048576: true; the input reads as it did. -/
def fnExactRuleNameUptoRow : OpenClaim := { program := "ytcombeiiagjjiaa", sum := "cd1c40766d1daf36bc81ba1a635fbd4514339398115047fe8b19721337262206", func := "loop.example/g00984/laws.FnExactRuleName", spec := "fnExactRuleName", apart := false, narrowed := true }
def FnExactRuleNameUptoSaid : Prop := fnExactRuleNameUptoRow.holds Try.pinned (OpenSpec.upto fnExactRuleNameSpec)

/-- 'laws.FnExactOpposite', WHERE WHAT IT READS IS OF BULK AT MOST 1048576: true; the input reads as it did. -/
def fnExactOppositeUptoRow : OpenClaim := { program := "ytcombeiiagjjiaa", sum := "cd1c40766d1daf36bc81ba1a635fbd4514339398115047fe8b19721337262206", func := "loop.example/g00984/laws.FnExactOpposite", spec := "fnExactOpposite", apart := false, narrowed := true }
def FnExactOppositeUptoSaid : Prop := fnExactOppositeUptoRow.holds Try.pinned (OpenSpec.upto fnExactOppositeSpec)

end Rows
end Go.Proofs.Ytcombeiiagjjiaa
