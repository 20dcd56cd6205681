-- Cut down by the session's own program (wip/tools/prune.py) to what this claim uses; before that: written or printed by the session's programs.
import Derived.Test.YteppmdafdopehaaP0
import Derived.Test.YteppmdafdopehaaOpens
namespace Go.Proofs.Yteppmdafdopehaa.P
open Go.RowKit Go.Proofs.YteppmdafdopehaaW.PrintWords Go.Proofs.YteppmdafdopehaaW.PrintLast
open Go.Proofs.Yteppmdafdopehaa.Opens
set_option linter.unusedVariables false
def G26 (x : S26) : Prop := ((Lit.int .i64 x.f0).wf = true) ∧ ((Lit.int .i64 x.f1).wf = true)
theorem opens26 : Opens Try.prog k26 26 G26 :=
  Opens.struct (t := 26) (K := _) (OpensS.cons (Opens.int Try.underlying3) (OpensS.one (Opens.int Try.underlying3))) Try.underlying26 (by kernel_rfl) (by kernel_rfl) (by kernel_rfl) (fun x : S26 => (x.f0, x.f1)) (fun p => ⟨p.1, p.2⟩) (fun _ => rfl)
def G43 (x : S43) : Prop := (G26 x.f0) ∧ ((Lit.int .i64 x.f1).wf = true)
theorem opens43 : Opens Try.prog k43 43 G43 :=
  Opens.struct (t := 43) (K := _) (OpensS.cons opens26 (OpensS.one (Opens.int Try.underlying3))) Try.underlying43 (by kernel_rfl) (by kernel_rfl) (by kernel_rfl) (fun x : S43 => (x.f0, x.f1)) (fun p => ⟨p.1, p.2⟩) (fun _ => rfl)
def G24 (x : S24) : Prop := ((Lit.int .i64 x.f0).wf = true) ∧ (x.f1.length * 24 ≤ 140737488351232 ∧ x.f1.length ≤ maxLen ∧ ∀ x_ ∈ x.f1, G43 x_)
theorem opens24 : Opens Try.prog k24 24 G24 :=
  Opens.struct (t := 24) (K := _) (OpensS.cons (Opens.int Try.underlying3) (OpensS.one (Opens.slice opens43 Try.underlying22 (by kernel_rfl) (by kernel_rfl)))) Try.underlying24 (by kernel_rfl) (by kernel_rfl) (by kernel_rfl) (fun x : S24 => (x.f0, x.f1)) (fun p => ⟨p.1, p.2⟩) (fun _ => rfl)
end Go.Proofs.Yteppmdafdopehaa.P
