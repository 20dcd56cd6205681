-- Cut down by the session's own program (wip/tools/prune.py) to what this claim uses; before that: printed by print.sh.
import Derived.Test.YteppmdafdopehaaWInv
import Derived.Test.YteppmdafdopehaaWFootNe
namespace Go.Proofs.YteppmdafdopehaaW.PrintWords
open Go.RowKit
end Go.Proofs.YteppmdafdopehaaW.PrintWords
namespace Go.Proofs.YteppmdafdopehaaW.PrintLast
section
variable {ops : Array Oper} {a : Act} {o og : Oper} {g : Nat} {t : Tmp} {u : Bool}
end
end Go.Proofs.YteppmdafdopehaaW.PrintLast
