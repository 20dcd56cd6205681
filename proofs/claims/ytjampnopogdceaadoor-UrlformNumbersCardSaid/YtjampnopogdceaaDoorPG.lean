-- Written by the session's own program (wip/tools/myprint.py), over the kit's printer. Lean checks it.
import Derived.Test.YtjampnopogdceaaDoorP0
import Derived.Test.YtjampnopogdceaaDoorOpens
namespace Go.Proofs.YtjampnopogdceaaDoor.P
open Go.RowKit Go.Proofs.YtjampnopogdceaaDoorW.PrintWords Go.Proofs.YtjampnopogdceaaDoorW.PrintLast
open Go.Proofs.YtjampnopogdceaaDoor.Opens
set_option linter.unusedVariables false

def G45 (x : S45) : Prop := (x.f0.size ≤ 140737488351232) ∧ (x.f1.size ≤ 140737488351232)
theorem opens45 : Opens Tryd.prog k45 45 G45 :=
  Opens.struct (t := 45) (K := _) (OpensS.cons (Opens.string Tryd.underlying9) (OpensS.one (Opens.string Tryd.underlying9))) Tryd.underlying45 (by kernel_rfl) (by kernel_rfl) (by kernel_rfl) (fun x : S45 => (x.f0, x.f1)) (fun p => ⟨p.1, p.2⟩) (fun _ => rfl)
end Go.Proofs.YtjampnopogdceaaDoor.P
