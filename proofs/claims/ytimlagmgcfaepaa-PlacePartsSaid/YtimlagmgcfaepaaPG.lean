-- Written by the session's own program (wip/tools/myprint.py), over the kit's printer. Lean checks it.
import Derived.Test.YtimlagmgcfaepaaP0
import Derived.Test.YtimlagmgcfaepaaOpens
namespace Go.Proofs.Ytimlagmgcfaepaa.P
open Go.RowKit Go.Proofs.YtimlagmgcfaepaaW.PrintWords Go.Proofs.YtimlagmgcfaepaaW.PrintLast
open Go.Proofs.Ytimlagmgcfaepaa.Opens
set_option linter.unusedVariables false

def G26 (x : S26) : Prop := ((Lit.int .i64 x.f0).wf = true) ∧ ((Lit.int .i64 x.f1).wf = true)
theorem opens26 : Opens Try.prog k26 26 G26 :=
  Opens.struct (t := 26) (K := _) (OpensS.cons (Opens.int Try.underlying3) (OpensS.one (Opens.int Try.underlying3))) Try.underlying26 (by kernel_rfl) (by kernel_rfl) (by kernel_rfl) (fun x : S26 => (x.f0, x.f1)) (fun p => ⟨p.1, p.2⟩) (fun _ => rfl)
end Go.Proofs.Ytimlagmgcfaepaa.P
