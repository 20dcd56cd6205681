/- slices.Clone at bytes, in the print's own form. No conditions. -/
import Derived.Test.YteppmdafdopehaaP0
import Derived.WalkSpells
namespace Go.Proofs.Yteppmdafdopehaa.P
open Go.RowKit Go.Proofs.YteppmdafdopehaaW.PrintWords Go.Proofs.YteppmdafdopehaaW.PrintLast Go.Proofs.YteppmdafdopehaaW.PrintMore
set_option linter.unusedVariables false
set_option linter.unusedSimpArgs false
def slices_Clone_u8.f (l0 : List Int) : Option (List Int) := if l0.length * 1 ≤ 140737488355328 then some l0 else none
end Go.Proofs.Yteppmdafdopehaa.P
