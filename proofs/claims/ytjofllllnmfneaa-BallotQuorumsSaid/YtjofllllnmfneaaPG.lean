-- Written by the session's own program (wip/tools/myprint.py), over the kit's printer. Lean checks it.
import Derived.Test.YtjofllllnmfneaaP0
import Derived.Test.YtjofllllnmfneaaOpens
namespace Go.Proofs.Ytjofllllnmfneaa.P
open Go.RowKit Go.Proofs.YtjofllllnmfneaaW.PrintWords Go.Proofs.YtjofllllnmfneaaW.PrintLast
open Go.Proofs.Ytjofllllnmfneaa.Opens
set_option linter.unusedVariables false

end Go.Proofs.Ytjofllllnmfneaa.P
