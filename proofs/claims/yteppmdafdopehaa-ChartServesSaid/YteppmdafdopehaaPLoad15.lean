/- The plain law: a chart's text read by the code and by the document's answer: both read it if, and only if, it is the text of a chart that may be. No program in sight; texts of at most 2,900 bytes. -/
import Derived.Test.YteppmdafdopehaaPMay15
import Derived.Test.YteppmdafdopehaaPEnc15
import Derived.Test.YteppmdafdopehaaP20
import Derived.Test.YteppmdafdopehaaP21
import Derived.Test.YteppmdafdopehaaP22
import Derived.Laws.BitsLemmas
import Derived.Test.YteppmdafdopehaaGLoad
import Derived.Test.YteppmdafdopehaaGRLoad
namespace Go.Proofs.Yteppmdafdopehaa.P.C4
open Go.RowKit Go.Proofs.YteppmdafdopehaaW.PrintWords Go.Proofs.YteppmdafdopehaaW.PrintLast Go.Proofs.YteppmdafdopehaaW.PrintMore
set_option linter.unusedVariables false
/-- Pieces whose numbers can be written. -/
def OkP (p : Pc) : Prop := (0 ≤ p.f0.f0 ∧ p.f0.f0 ≤ 65536) ∧ (0 ≤ p.f0.f1 ∧ p.f0.f1 ≤ 65536) ∧ (0 ≤ p.f1 ∧ p.f1 ≤ 65536)
theorem mayC_ok {ep : Int} {l : List Pc} (h : mayC ep l = true) : (1 ≤ ep ∧ ep ≤ 1099511627776) ∧ ∀ p ∈ l, OkP p := by
  unfold mayC at h
  simp only [Bool.and_eq_true, decide_eq_true_eq] at h
  refine ⟨⟨h.1, h.2.1⟩, fun p hp => ?_⟩
  obtain ⟨h1, h2, h3⟩ := (chOK_all l 0 0 h.2.2).1 p hp (by omega)
  unfold MayP at h1
  unfold OkP
  omega
end Go.Proofs.Yteppmdafdopehaa.P.C4
