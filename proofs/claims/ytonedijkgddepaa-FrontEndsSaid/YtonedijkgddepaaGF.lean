/- front.Client, by hand: done. No conditions. -/
import Derived.Test.YtonedijkgddepaaGE
import Derived.Test.YtonedijkgddepaaFClone
namespace Go.Proofs.Ytonedijkgddepaa.P
open Go.RowKit Go.Maps Go.Proofs.YtonedijkgddepaaW.PrintWords Go.Proofs.YtonedijkgddepaaW.PrintLast Go.Proofs.YtonedijkgddepaaW.PrintMore
set_option linter.unusedVariables false
set_option linter.unusedSimpArgs false
/-- A step's reply has come. -/
def doneV (c : Cl) (r : S42) : Cl := { c with out := c.out ++ [r], step := c.step + 1, works := if c.step + 1 = (if sweepsB c.call.kind = true then (c.sweep.length : Int) else (c.call.entries.length : Int)) ∨ (c.call.kind = 2 ∧ 0 < r.f3.length) then false else c.works }
end Go.Proofs.Ytonedijkgddepaa.P
