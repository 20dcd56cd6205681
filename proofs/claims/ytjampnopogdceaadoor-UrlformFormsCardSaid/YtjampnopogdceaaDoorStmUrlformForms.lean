-- Written by the session's own program (wip/tools/myprint.py), over the kit's printer. Lean checks it.
import Derived.Test.YtjampnopogdceaaDoorP20
import Derived.Test.YtjampnopogdceaaDoorPG
namespace Go.Proofs.YtjampnopogdceaaDoor.P
open Go.RowKit Go.Proofs.YtjampnopogdceaaDoorW.PrintWords Go.Proofs.YtjampnopogdceaaDoorW.PrintLast
def racewaylaw26_UrlformForms.Pure : Prop := ∀ (a0 : ByteArray) (l1 : List (S45)), (a0.size ≤ 140737488351232) → (l1.length * 32 ≤ 140737488351232 ∧ l1.length ≤ maxLen ∧ ∀ x_ ∈ l1, G45 x_) → ∃ k, racewaylaw26_UrlformForms.f k a0 l1 = some true
end Go.Proofs.YtjampnopogdceaaDoor.P
