/- What is proved: contracts of functions of the program (each: where its Lean function answers, the call returns that answer); written by a program of this session. -/
import Derived.Test.YtohccnaellachaaProg
import Derived.Below
import Derived.Deep.Draws
import Derived.Deep.AppendLies
import Derived.Maps.AppendAt
import Derived.OwnWalk
import Derived.Laws.BytesArg
import Derived.Laws.MakeOwn
import Derived.Laws.OwnMore
import Derived.Deep.OwnRows
import Derived.Tactics
import Derived.Lib.ConvBytes
import Derived.Laws.Slices
import Derived.WalkKit
import Derived.KernelRfl
import Derived.RowKit3
import Derived.Deep.LoopGhost
import Derived.Deep.QuietTactic
import Derived.BigQuiet
import Derived.WideLaws
import Derived.Deep.DeepCutAuto
import Derived.Deep.CutBlock
import Derived.Deep.RegionHeld3
import Derived.Laws.Rows
import Derived.Lib.AppendStr
import Derived.ArgAppend
import Derived.Laws.IdiomCopy
import Derived.OrdersHeld
import Derived.Laws.BitsLemmas
import Derived.RowKit
import Derived.Test.YtohccnaellachaaWWords
import Derived.Test.YtohccnaellachaaWLast
import Derived.Test.YtohccnaellachaaWTab
import Derived.Test.YtohccnaellachaaWFour
import Derived.Test.YtohccnaellachaaWQPut
import Derived.Test.YtohccnaellachaaWApart
import Derived.Test.YtohccnaellachaaWArr
import Derived.Test.YtohccnaellachaaWZeros
import Derived.Test.YtohccnaellachaaWFoot
import Derived.Test.YtohccnaellachaaWKept
import Derived.Test.YtohccnaellachaaWShare
import Derived.Test.YtohccnaellachaaWN
import Derived.Test.YtohccnaellachaaWFootNe
import Derived.Test.YtohccnaellachaaWAt
import Derived.Test.YtohccnaellachaaWEqStruct
import Derived.Test.YtohccnaellachaaWRepsOne
import Derived.Test.YtohccnaellachaaWInv
import Derived.Test.YtohccnaellachaaWInvWords
import Derived.Test.YtohccnaellachaaWGuard
import Derived.Test.YtohccnaellachaaWNEv
import Derived.Test.YtohccnaellachaaWMore
namespace Go.Proofs.Ytohccnaellachaa.XR
open Go.RowKit Go.Proofs.YtohccnaellachaaW.PrintWords Go.Proofs.YtohccnaellachaaW.PrintLast Go.Proofs.YtohccnaellachaaW.PrintMore
attribute [local go_sem] max2_int min2_int max_two min_two max_three min_three max_four min_four   -- for this text's walks alone
set_option linter.unusedVariables false
set_option linter.unusedSimpArgs false



def errW : Option Int → Value
  | none => .nilIface
  | some c => .iface 0 (.int .i64 c)
theorem errW_none : errW none = .nilIface := rfl
theorem errW_some (c : Int) : errW (some c) = .iface 0 (.int .i64 c) := rfl

theorem info3 : (Try.prog.info? 3).map (fun i => (i.zero, i.size, i.bytes)) = some (some (.int .i64 0), 1, 8) := by kernel_rfl
-- the values' own types

end Go.Proofs.Ytohccnaellachaa.XR
