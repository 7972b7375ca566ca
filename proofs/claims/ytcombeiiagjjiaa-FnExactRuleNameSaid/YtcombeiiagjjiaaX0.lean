/- What is proved: contracts of functions of the program (each: where its Lean function answers, the call returns that answer); written by a program of this session. -/
import Derived.Test.YtcombeiiagjjiaaProg
import Derived.Below
import Derived.Deep.Draws
import Derived.Deep.AppendLies
import Derived.Maps.AppendAt
import Derived.OwnWalk
import Derived.Laws.BytesArg
import Derived.Laws.MakeOwn
import Derived.Laws.OwnMore
import Derived.Deep.OwnRows
import Derived.Tactics
import Derived.Lib.ConvBytes
import Derived.Laws.Slices
import Derived.WalkKit
import Derived.KernelRfl
import Derived.RowKit3
import Derived.Deep.LoopGhost
import Derived.Deep.QuietTactic
import Derived.BigQuiet
import Derived.WideLaws
import Derived.Deep.DeepCutAuto
import Derived.Deep.CutBlock
import Derived.Deep.RegionHeld3
import Derived.Laws.Rows
import Derived.Lib.AppendStr
import Derived.ArgAppend
import Derived.Laws.IdiomCopy
import Derived.OrdersHeld
import Derived.Laws.BitsLemmas
import Derived.RowKit
import Derived.Test.YtcombeiiagjjiaaWWords
import Derived.Test.YtcombeiiagjjiaaWLast
import Derived.Test.YtcombeiiagjjiaaWTab
import Derived.Test.YtcombeiiagjjiaaWFour
import Derived.Test.YtcombeiiagjjiaaWQPut
import Derived.Test.YtcombeiiagjjiaaWApart
import Derived.Test.YtcombeiiagjjiaaWArr
import Derived.Test.YtcombeiiagjjiaaWZeros
import Derived.Test.YtcombeiiagjjiaaWFoot
import Derived.Test.YtcombeiiagjjiaaWKept
import Derived.Test.YtcombeiiagjjiaaWShare
import Derived.Test.YtcombeiiagjjiaaWN
import Derived.Test.YtcombeiiagjjiaaWFootNe
import Derived.Test.YtcombeiiagjjiaaWAt
import Derived.Test.YtcombeiiagjjiaaWEqStruct
import Derived.Test.YtcombeiiagjjiaaWRepsOne
import Derived.Test.YtcombeiiagjjiaaWInv
import Derived.Test.YtcombeiiagjjiaaWInvWords
import Derived.Test.YtcombeiiagjjiaaWGuard
import Derived.Test.YtcombeiiagjjiaaWNEv
import Derived.Test.YtcombeiiagjjiaaWMore
namespace Go.Proofs.Ytcombeiiagjjiaa.X
open Go.RowKit Go.Proofs.YtcombeiiagjjiaaW.PrintWords Go.Proofs.YtcombeiiagjjiaaW.PrintLast Go.Proofs.YtcombeiiagjjiaaW.PrintMore
attribute [local go_sem] max2_int min2_int max_two min_two max_three min_three max_four min_four   -- for this text's walks alone
set_option linter.unusedVariables false
set_option linter.unusedSimpArgs false



def errW : Option Int → Value
  | none => .nilIface
  | some c => .iface 0 (.int .i64 c)
theorem errW_none : errW none = .nilIface := rfl
theorem errW_some (c : Int) : errW (some c) = .iface 0 (.int .i64 c) := rfl

theorem info9 : (Try.prog.info? 9).map (fun i => (i.zero, i.size, i.bytes)) = some (some (.string ⟨#[]⟩), 1, 16) := by kernel_rfl
-- the values' own types

end Go.Proofs.Ytcombeiiagjjiaa.X
