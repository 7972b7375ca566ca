/- What is proved: contracts of functions of the program (each: where its Lean function answers, the call returns that answer); written by a program of this session. -/
import Derived.Test.YtcombeiiagjjiabProg
import Derived.Below
import Derived.Deep.Draws
import Derived.Deep.AppendLies
import Derived.Maps.AppendAt
import Derived.OwnWalk
import Derived.Laws.BytesArg
import Derived.Laws.MakeOwn
import Derived.Laws.OwnMore
import Derived.Deep.OwnRows
import Derived.Tactics
import Derived.Lib.ConvBytes
import Derived.Laws.Slices
import Derived.WalkKit
import Derived.KernelRfl
import Derived.RowKit3
import Derived.Deep.LoopGhost
import Derived.Deep.QuietTactic
import Derived.BigQuiet
import Derived.WideLaws
import Derived.Deep.DeepCutAuto
import Derived.Deep.CutBlock
import Derived.Deep.RegionHeld3
import Derived.Laws.Rows
import Derived.Lib.AppendStr
import Derived.ArgAppend
import Derived.Laws.IdiomCopy
import Derived.OrdersHeld
import Derived.Laws.BitsLemmas
import Derived.RowKit
import Derived.Test.YtcombeiiagjjiabWWords
import Derived.Test.YtcombeiiagjjiabWLast
import Derived.Test.YtcombeiiagjjiabWTab
import Derived.Test.YtcombeiiagjjiabWFour
import Derived.Test.YtcombeiiagjjiabWQPut
import Derived.Test.YtcombeiiagjjiabWApart
import Derived.Test.YtcombeiiagjjiabWArr
import Derived.Test.YtcombeiiagjjiabWZeros
import Derived.Test.YtcombeiiagjjiabWFoot
import Derived.Test.YtcombeiiagjjiabWKept
import Derived.Test.YtcombeiiagjjiabWShare
import Derived.Test.YtcombeiiagjjiabWN
import Derived.Test.YtcombeiiagjjiabWFootNe
import Derived.Test.YtcombeiiagjjiabWAt
import Derived.Test.YtcombeiiagjjiabWEqStruct
import Derived.Test.YtcombeiiagjjiabWRepsOne
import Derived.Test.YtcombeiiagjjiabWInv
import Derived.Test.YtcombeiiagjjiabWInvWords
import Derived.Test.YtcombeiiagjjiabWGuard
import Derived.Test.YtcombeiiagjjiabWNEv
import Derived.Test.YtcombeiiagjjiabWMore
import Derived.Test.YtcombeiiagjjiabMore
namespace Go.Proofs.Ytcombeiiagjjiab.XE
open Go.RowKit Go.Proofs.YtcombeiiagjjiabW.PrintWords Go.Proofs.YtcombeiiagjjiabW.PrintLast Go.Proofs.YtcombeiiagjjiabW.PrintMore
attribute [local go_sem] max2_int min2_int max_two min_two max_three min_three max_four min_four   -- for this text's walks alone
set_option linter.unusedVariables false
set_option linter.unusedSimpArgs false



def errW : Option Int → Value
  | none => .nilIface
  | some c => .iface 0 (.int .i64 c)
theorem errW_none : errW none = .nilIface := rfl
theorem errW_some (c : Int) : errW (some c) = .iface 0 (.int .i64 c) := rfl

theorem info5 : (Try.prog.info? 5).map (fun i => (i.zero, i.size, i.bytes)) = some (some (.int .u8 0), 1, 1) := by kernel_rfl
-- the values' own types

end Go.Proofs.Ytcombeiiagjjiab.XE
