-- Written by the session's own program (wip/tools/myprint.py), over the kit's printer. Lean checks it.
import Derived.Test.YteppmdafdopehaaP24
import Derived.Test.YteppmdafdopehaaP0
import Derived.Test.YteppmdafdopehaaOpens
namespace Go.Proofs.Yteppmdafdopehaa.P
open Go.RowKit Go.Proofs.YteppmdafdopehaaW.PrintWords Go.Proofs.YteppmdafdopehaaW.PrintLast
def racewaylaw15_ChartLoads.Pure : Prop := ∀ (a0 : ByteArray), (a0.size ≤ 140737488351232) → ∃ k, racewaylaw15_ChartLoads.f k a0 = some true
end Go.Proofs.Yteppmdafdopehaa.P
