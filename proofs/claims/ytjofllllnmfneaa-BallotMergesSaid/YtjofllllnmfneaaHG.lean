/- What is known of the structs that come in. No conditions. -/
import Derived.Test.YtjofllllnmfneaaP0
import Derived.Test.YtjofllllnmfneaaOpens
namespace Go.Proofs.Ytjofllllnmfneaa.P
open Go.RowKit Go.Proofs.YtjofllllnmfneaaW.PrintWords Go.Proofs.YtjofllllnmfneaaW.PrintLast
open Go.Proofs.Ytjofllllnmfneaa.Opens
set_option linter.unusedVariables false

def G30 (x : S30) : Prop := ((Lit.int .i64 x.f0).wf = true) ∧ ((Lit.int .i64 x.f1).wf = true) ∧ (x.f2.length * 1 ≤ 140737488351232 ∧ x.f2.length ≤ maxLen ∧ ∀ x_ ∈ x.f2, (Lit.int .u8 x_).wf = true)
theorem opens30 : Opens Try.prog k30 30 G30 :=
  Opens.struct (t := 30) (K := _) (OpensS.cons (Opens.int Try.underlying3) (OpensS.cons (Opens.int Try.underlying3) (OpensS.one (Opens.slice (Opens.int Try.underlying5) Try.underlying28 (by kernel_rfl) (by kernel_rfl))))) Try.underlying30 (by kernel_rfl) (by kernel_rfl) (by kernel_rfl) (fun x : S30 => (x.f0, x.f1, x.f2)) (fun p => ⟨p.1, p.2.1, p.2.2⟩) (fun _ => rfl)
end Go.Proofs.Ytjofllllnmfneaa.P
