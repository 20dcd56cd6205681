-- Cut down by the session's own program (wip/tools/prune.py) to what this claim uses; before that: written or printed by the session's programs.
import Derived.Test.YteppmdafdopehaaP0
import Derived.Test.YteppmdafdopehaaOpens
namespace Go.Proofs.Yteppmdafdopehaa.P
open Go.RowKit Go.Proofs.YteppmdafdopehaaW.PrintWords Go.Proofs.YteppmdafdopehaaW.PrintLast
open Go.Proofs.Yteppmdafdopehaa.Opens
set_option linter.unusedVariables false
def G26 (x : S26) : Prop := ((Lit.int .i64 x.f0).wf = true) ∧ ((Lit.int .i64 x.f1).wf = true)
theorem opens26 : Opens Try.prog k26 26 G26 :=
  Opens.struct (t := 26) (K := _) (OpensS.cons (Opens.int Try.underlying3) (OpensS.one (Opens.int Try.underlying3))) Try.underlying26 (by kernel_rfl) (by kernel_rfl) (by kernel_rfl) (fun x : S26 => (x.f0, x.f1)) (fun p => ⟨p.1, p.2⟩) (fun _ => rfl)
def G39 (x : S39) : Prop := (G26 x.f0) ∧ ((Lit.int .i64 x.f1).wf = true)
theorem opens39 : Opens Try.prog k39 39 G39 :=
  Opens.struct (t := 39) (K := _) (OpensS.cons opens26 (OpensS.one (Opens.int Try.underlying3))) Try.underlying39 (by kernel_rfl) (by kernel_rfl) (by kernel_rfl) (fun x : S39 => (x.f0, x.f1)) (fun p => ⟨p.1, p.2⟩) (fun _ => rfl)
end Go.Proofs.Yteppmdafdopehaa.P
