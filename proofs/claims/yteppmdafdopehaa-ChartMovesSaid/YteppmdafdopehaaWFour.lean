-- Cut down by the session's own program (wip/tools/prune.py) to what this claim uses; before that: printed by print.sh.
import Derived.Test.YteppmdafdopehaaWTab
namespace Go.Proofs.YteppmdafdopehaaW.PrintLast
section
variable {P : Program} {ops : Array Oper} {Q : Exit → Act → World → Prop} {md : Region.Mode} {S : World → Prop} {ds : List Nat} {T : Bool × List (List Nat × List Nat)}
end
end Go.Proofs.YteppmdafdopehaaW.PrintLast
