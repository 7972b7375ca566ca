/- What is proved: contracts of functions of the program (each: where its Lean function answers, the call returns that answer); written by a program of this session. -/
import Derived.Test.YtajmccnilhambaaProg
import Derived.Deep.RegionLaw
import Derived.StillTailTactics
import Derived.Below
import Derived.Deep.Draws
import Derived.Deep.AppendLies
import Derived.Maps.AppendAt
import Derived.OwnWalk
import Derived.Laws.BytesArg
import Derived.Laws.MakeOwn
import Derived.Laws.OwnMore
import Derived.Deep.OwnRows
import Derived.Tactics
import Derived.Lib.ConvBytes
import Derived.Laws.Slices
import Derived.WalkKit
import Derived.KernelRfl
import Derived.RowKit3
import Derived.Deep.LoopGhost
import Derived.Deep.QuietTactic
import Derived.BigQuiet
import Derived.WideLaws
import Derived.Deep.DeepCutAuto
import Derived.Deep.CutBlock
import Derived.Deep.RegionHeld3
import Derived.Laws.Rows
import Derived.Lib.AppendStr
import Derived.ArgAppend
import Derived.Laws.IdiomCopy
import Derived.OrdersHeld
import Derived.Laws.BitsLemmas
import Derived.RowKit
import Derived.Test.YtajmccnilhambaaWWords
import Derived.Test.YtajmccnilhambaaWLast
import Derived.Test.YtajmccnilhambaaWTab
import Derived.Test.YtajmccnilhambaaWFour
import Derived.Test.YtajmccnilhambaaWQPut
import Derived.Test.YtajmccnilhambaaWApart
import Derived.Test.YtajmccnilhambaaWArr
import Derived.Test.YtajmccnilhambaaWZeros
import Derived.Test.YtajmccnilhambaaWFoot
import Derived.Test.YtajmccnilhambaaWKept
import Derived.Test.YtajmccnilhambaaWShare
import Derived.Test.YtajmccnilhambaaWN
import Derived.Test.YtajmccnilhambaaWFootNe
import Derived.Test.YtajmccnilhambaaWAt
import Derived.Test.YtajmccnilhambaaWEqStruct
import Derived.Test.YtajmccnilhambaaWRepsOne
import Derived.Test.YtajmccnilhambaaWInv
import Derived.Test.YtajmccnilhambaaWInvWords
import Derived.Test.YtajmccnilhambaaWGuard
import Derived.Test.YtajmccnilhambaaWNEv
import Derived.Test.YtajmccnilhambaaWMore
import Derived.Test.YtajmccnilhambaaMore
import Derived.Test.YtajmccnilhambaaShelf
namespace Go.Proofs.Ytajmccnilhambaa.X
open Go.RowKit Go.Proofs.YtajmccnilhambaaW.PrintWords Go.Proofs.YtajmccnilhambaaW.PrintLast Go.Proofs.YtajmccnilhambaaW.PrintMore
attribute [local go_sem] max2_int min2_int max_two min_two max_three min_three max_four min_four   -- for this text's walks alone
set_option linter.unusedVariables false
set_option linter.unusedSimpArgs false



def errW : Option Int → Value
  | none => .nilIface
  | some c => .iface 0 (.int .i64 c)
theorem errW_none : errW none = .nilIface := rfl
theorem errW_some (c : Int) : errW (some c) = .iface 0 (.int .i64 c) := rfl

theorem info5 : (Try.prog.info? 5).map (fun i => (i.zero, i.size, i.bytes)) = some (some (.int .u8 0), 1, 1) := by kernel_rfl
-- the values' own types

end Go.Proofs.Ytajmccnilhambaa.X
