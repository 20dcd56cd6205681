-- Cut down by the session's own program (wip/tools/prune.py) to what this claim uses; before that: written or printed by the session's programs.
import Derived.Test.YteppmdafdopehaaP0
namespace Go.Proofs.Yteppmdafdopehaa.P
open Go.RowKit Go.Proofs.YteppmdafdopehaaW.PrintWords Go.Proofs.YteppmdafdopehaaW.PrintLast Go.Proofs.YteppmdafdopehaaW.PrintMore
attribute [local go_sem] max2_int min2_int max_two min_two max_three min_three max_four min_four   -- for this text's walks alone
set_option linter.unusedVariables false
set_option linter.unusedSimpArgs false
def racewaylaw15_few.f (a0_0 : Int) (l0_1 : List (S43)) : Option (Int × (List (S43))) := (some (([] : List (S43)) : List (S43))).bind fun y103 => (if 0 ≤ (mn (l0_1.length : Int) 30) then (if (mn (l0_1.length : Int) 30) ≤ (l0_1.length : Int) then ((some (l0_1.take ((mn (l0_1.length : Int) 30) : Int).toNat : List (S43))).bind fun y106 => (if y103.length + y106.length < 5864062014805 then (some (a0_0, (y103 ++ y106))) else (none))) else (none)) else (none))
def racewaylaw15_few.B1 : List Nat := [0, 1, 0, 0, 8, 0, 32, 96, 224, 504, 1020, 2047, 4095]
end Go.Proofs.Yteppmdafdopehaa.P
