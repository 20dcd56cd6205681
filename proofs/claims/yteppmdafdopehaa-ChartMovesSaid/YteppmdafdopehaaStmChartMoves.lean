-- Written by the session's own program (wip/tools/myprint.py), over the kit's printer. Lean checks it.
import Derived.Test.YteppmdafdopehaaP18
import Derived.Test.YteppmdafdopehaaPG
namespace Go.Proofs.Yteppmdafdopehaa.P
open Go.RowKit Go.Proofs.YteppmdafdopehaaW.PrintWords Go.Proofs.YteppmdafdopehaaW.PrintLast
def racewaylaw15_ChartMoves.Pure : Prop := ∀ (a0_0 : Int) (l0_1 : List (S43)) (a1_0 : Int) (a1_1 : Int) (a2 : Int), ((Lit.int .i64 a0_0).wf = true) → (l0_1.length * 24 ≤ 140737488351232 ∧ l0_1.length ≤ maxLen ∧ ∀ x_ ∈ l0_1, G43 x_) → ((Lit.int .i64 a1_0).wf = true) → ((Lit.int .i64 a1_1).wf = true) → ((Lit.int .i64 a2).wf = true) → ∃ k, racewaylaw15_ChartMoves.f k a0_0 l0_1 a1_0 a1_1 a2 = some true
end Go.Proofs.Yteppmdafdopehaa.P
