-- Written by the session's own program (wip/tools/myprint.py), over the kit's printer. Lean checks it.
import Derived.Test.YtimlagmgcfaepaaP17
import Derived.Test.YtimlagmgcfaepaaPG
namespace Go.Proofs.Ytimlagmgcfaepaa.P
open Go.RowKit Go.Proofs.YtimlagmgcfaepaaW.PrintWords Go.Proofs.YtimlagmgcfaepaaW.PrintLast
def racewaylaw04_PlaceLists.Pure : Prop := ∀ (l0 : List (S26)) (a1_0 : Int) (a1_1 : Int) (a2 : Int), (l0.length * 16 ≤ 140737488351232 ∧ l0.length ≤ maxLen ∧ ∀ x_ ∈ l0, G26 x_) → ((Lit.int .i64 a1_0).wf = true) → ((Lit.int .i64 a1_1).wf = true) → ((Lit.int .i64 a2).wf = true) → ∃ k, racewaylaw04_PlaceLists.f k l0 a1_0 a1_1 a2 = some true
end Go.Proofs.Ytimlagmgcfaepaa.P
