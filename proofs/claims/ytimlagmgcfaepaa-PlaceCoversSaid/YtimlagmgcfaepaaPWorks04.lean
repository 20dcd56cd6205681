/- The plain law: the chapter's example of layer 4 holds; Split, In, May of numbers. No conditions. -/
import Derived.Test.YtimlagmgcfaepaaPOf
import Derived.Test.YtimlagmgcfaepaaP4
namespace Go.Proofs.Ytimlagmgcfaepaa.P
open Go.RowKit Go.Proofs.YtimlagmgcfaepaaW.PrintWords Go.Proofs.YtimlagmgcfaepaaW.PrintLast
theorem works_ev : Ev (fun k => racewaylaw04_works.f k) true := by
  unfold racewaylaw04_works.f
  refine Ev.congr (f := fun k => (place_Of.f k (⟨#[97]⟩ : ByteArray)).bind fun t => if t = 52512 then some true else some false) (fun k => ?_) ?_
  · rfl
  · refine Ev.bind (of_ev ⟨#[97]⟩ (by decide)) ?_
    have e : plc ⟨#[97]⟩ = 52512 := by decide +kernel
    rw [e]
    exact Ev.now _
end Go.Proofs.Ytimlagmgcfaepaa.P
