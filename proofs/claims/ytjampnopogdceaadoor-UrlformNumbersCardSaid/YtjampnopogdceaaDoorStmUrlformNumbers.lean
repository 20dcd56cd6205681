-- Written by the session's own program (wip/tools/myprint.py), over the kit's printer. Lean checks it.
import Derived.Test.YtjampnopogdceaaDoorP17
import Derived.Test.YtjampnopogdceaaDoorPG
namespace Go.Proofs.YtjampnopogdceaaDoor.P
open Go.RowKit Go.Proofs.YtjampnopogdceaaDoorW.PrintWords Go.Proofs.YtjampnopogdceaaDoorW.PrintLast
def racewaylaw26_UrlformNumbers.Pure : Prop := ∀ (l0 : List (S45)) (a1 : ByteArray), (l0.length * 32 ≤ 140737488351232 ∧ l0.length ≤ maxLen ∧ ∀ x_ ∈ l0, G45 x_) → (a1.size ≤ 140737488351232) → ∃ k, racewaylaw26_UrlformNumbers.f k l0 a1 = some true
end Go.Proofs.YtjampnopogdceaaDoor.P
