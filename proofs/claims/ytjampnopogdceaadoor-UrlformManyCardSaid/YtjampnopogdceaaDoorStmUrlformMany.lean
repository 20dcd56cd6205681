-- Written by the session's own program (wip/tools/myprint.py), over the kit's printer. Lean checks it.
import Derived.Test.YtjampnopogdceaaDoorP8
import Derived.Test.YtjampnopogdceaaDoorPG
namespace Go.Proofs.YtjampnopogdceaaDoor.P
open Go.RowKit Go.Proofs.YtjampnopogdceaaDoorW.PrintWords Go.Proofs.YtjampnopogdceaaDoorW.PrintLast
def racewaylaw26_UrlformMany.Pure : Prop := ∀ (a0 : Int), ((Lit.int .i64 a0).wf = true) → ∃ k, racewaylaw26_UrlformMany.f k a0 = some true
end Go.Proofs.YtjampnopogdceaaDoor.P
