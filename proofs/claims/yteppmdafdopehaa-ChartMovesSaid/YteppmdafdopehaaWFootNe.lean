-- Cut down by the session's own program (wip/tools/prune.py) to what this claim uses; before that: printed by print.sh.
import Derived.Test.YteppmdafdopehaaWN
namespace Go.Proofs.YteppmdafdopehaaW.PrintWords
open Go.RowKit
namespace Kd
section
variable {α : Type} {d : Kd α} {W : World} {g n : Nat} {S ok : Nat → Prop} {A : Option Addr} {ad : Addr} {xs : List α}
end
end Kd
end Go.Proofs.YteppmdafdopehaaW.PrintWords
