-- Written by the session's own program (wip/tools/myprint.py), over the kit's printer. Lean checks it.
import Derived.Test.YtjampnopogdceaaDoorP7
import Derived.Test.YtjampnopogdceaaDoorPG
namespace Go.Proofs.YtjampnopogdceaaDoor.P
open Go.RowKit Go.Proofs.YtjampnopogdceaaDoorW.PrintWords Go.Proofs.YtjampnopogdceaaDoorW.PrintLast
def racewaylaw26_UrlformParts.Pure : Prop := ∀ (a0 : ByteArray) (a1 : ByteArray), (a0.size ≤ 140737488351232) → (a1.size ≤ 140737488351232) → ∃ k, racewaylaw26_UrlformParts.f k a0 a1 = some true
end Go.Proofs.YtjampnopogdceaaDoor.P
