/- The chapter's example answers true. No conditions. -/
import Derived.Test.YtjampnopogdceaaDoorP4
import Derived.KernelRfl
namespace Go.Proofs.YtjampnopogdceaaDoor.P
open Go.RowKit Go.Proofs.YtjampnopogdceaaDoorW.PrintWords Go.Proofs.YtjampnopogdceaaDoorW.PrintLast
set_option maxRecDepth 100000
theorem works_k : racewaylaw26_works.f 10 = some true := by kernel_rfl
end Go.Proofs.YtjampnopogdceaaDoor.P
