-- Written by the session's own program (wip/tools/myprint.py), over the kit's printer. Lean checks it.
import Derived.Test.YtimlagmgcfaepaaP8
import Derived.Test.YtimlagmgcfaepaaPG
namespace Go.Proofs.Ytimlagmgcfaepaa.P
open Go.RowKit Go.Proofs.YtimlagmgcfaepaaW.PrintWords Go.Proofs.YtimlagmgcfaepaaW.PrintLast
def racewaylaw04_PlaceOf.Pure : Prop := ∀ (a0 : ByteArray), (a0.size ≤ 140737488351232) → ∃ k, racewaylaw04_PlaceOf.f k a0 = some true
end Go.Proofs.Ytimlagmgcfaepaa.P
