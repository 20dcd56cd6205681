/- front.Client, by hand: Tick. No conditions. -/
import Derived.Test.YtonedijkgddepaaGD
namespace Go.Proofs.Ytonedijkgddepaa.P
open Go.RowKit Go.Maps Go.Proofs.YtonedijkgddepaaW.PrintWords Go.Proofs.YtonedijkgddepaaW.PrintLast Go.Proofs.YtonedijkgddepaaW.PrintMore
set_option linter.unusedVariables false
set_option linter.unusedSimpArgs false
def mapPk (id at_ : Int) : S47 := ⟨4, -id, at_, 0, z31, z38, z42, z45, []⟩
end Go.Proofs.Ytonedijkgddepaa.P
