-- Written by the session's own program (wip/tools/myprint.py), over the kit's printer. Lean checks it.
import Derived.Test.YtjampnopogdceaaDoorP5
import Derived.Test.YtjampnopogdceaaDoorPG
namespace Go.Proofs.YtjampnopogdceaaDoor.P
open Go.RowKit Go.Proofs.YtjampnopogdceaaDoorW.PrintWords Go.Proofs.YtjampnopogdceaaDoorW.PrintLast
def racewaylaw26_UrlformEscapes.Pure : Prop := ∀ (a0 : ByteArray), (a0.size ≤ 140737488351232) → ∃ k, racewaylaw26_UrlformEscapes.f k a0 = some true
end Go.Proofs.YtjampnopogdceaaDoor.P
