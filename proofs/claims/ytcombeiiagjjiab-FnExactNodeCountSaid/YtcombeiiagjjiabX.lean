/- What is proved: contracts of functions of the program (each: where its Lean function answers, the call returns that answer); written by a program of this session. -/
import Derived.Test.YtcombeiiagjjiabX0
import Derived.Test.YtcombeiiagjjiabX1
import Derived.Test.YtcombeiiagjjiabX2
namespace Go.Proofs.Ytcombeiiagjjiab.X
open Go.RowKit Go.Proofs.YtcombeiiagjjiabW.PrintWords Go.Proofs.YtcombeiiagjjiabW.PrintLast Go.Proofs.YtcombeiiagjjiabW.PrintMore
attribute [local go_sem] max2_int min2_int max_two min_two max_three min_three max_four min_four   -- for this text's walks alone
set_option linter.unusedVariables false
set_option linter.unusedSimpArgs false

end Go.Proofs.Ytcombeiiagjjiab.X
