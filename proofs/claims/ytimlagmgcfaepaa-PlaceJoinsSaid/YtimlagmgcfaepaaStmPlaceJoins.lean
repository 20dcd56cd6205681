-- Written by the session's own program (wip/tools/myprint.py), over the kit's printer. Lean checks it.
import Derived.Test.YtimlagmgcfaepaaP25
import Derived.Test.YtimlagmgcfaepaaPG
namespace Go.Proofs.Ytimlagmgcfaepaa.P
open Go.RowKit Go.Proofs.YtimlagmgcfaepaaW.PrintWords Go.Proofs.YtimlagmgcfaepaaW.PrintLast
def racewaylaw04_PlaceJoins.Pure : Prop := ∀ (l0 : List (S26)) (a1 : Int), (l0.length * 16 ≤ 140737488351232 ∧ l0.length ≤ maxLen ∧ ∀ x_ ∈ l0, G26 x_) → ((Lit.int .i64 a1).wf = true) → ∃ k, racewaylaw04_PlaceJoins.f k l0 a1 = some true
end Go.Proofs.Ytimlagmgcfaepaa.P
