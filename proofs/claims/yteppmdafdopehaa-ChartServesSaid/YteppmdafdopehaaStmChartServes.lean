-- Written by the session's own program (wip/tools/myprint.py), over the kit's printer. Lean checks it.
import Derived.Test.YteppmdafdopehaaP19
import Derived.Test.YteppmdafdopehaaPG
namespace Go.Proofs.Yteppmdafdopehaa.P
open Go.RowKit Go.Proofs.YteppmdafdopehaaW.PrintWords Go.Proofs.YteppmdafdopehaaW.PrintLast
def racewaylaw15_ChartServes.Pure : Prop := ∀ (a0 : Int) (l1 : List (S39)) (a2 : Int), ((Lit.int .i64 a0).wf = true) → (l1.length * 24 ≤ 140737488351232 ∧ l1.length ≤ maxLen ∧ ∀ x_ ∈ l1, G39 x_) → ((Lit.int .i64 a2).wf = true) → ∃ k, racewaylaw15_ChartServes.f k a0 l1 a2 = some true
end Go.Proofs.Yteppmdafdopehaa.P
