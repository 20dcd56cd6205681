/- The plain law of ChartLoads: any text of at most 1,000 bytes is read alike. No conditions. -/
import Derived.Test.YteppmdafdopehaaStmChartLoads
import Derived.Test.YteppmdafdopehaaPLoad15
import Derived.Test.YteppmdafdopehaaPWorks15
namespace Go.Proofs.Yteppmdafdopehaa.Pure
open Go.RowKit Go.Proofs.Yteppmdafdopehaa.P Go.Proofs.YteppmdafdopehaaW.PrintWords Go.Proofs.YteppmdafdopehaaW.PrintLast Go.Proofs.YteppmdafdopehaaW.PrintMore
open Go.Proofs.Yteppmdafdopehaa.P.C4
theorem ChartLoads : racewaylaw15_ChartLoads.Pure := by
  intro a0 _
  suffices h : Ev (fun k => racewaylaw15_ChartLoads.f k a0) true from h.rounds
  unfold racewaylaw15_ChartLoads.f
  have h0 : 0 ≤ mn (a0.size : Int) 1000 ∧ mn (a0.size : Int) 1000 ≤ (a0.size : Int) ∧ mn (a0.size : Int) 1000 ≤ 1000 := by unfold mn; split <;> omega
  simp only [if_pos h0.1, if_pos h0.2.1]
  have hs : (a0.extract 0 (mn (a0.size : Int) 1000).toNat).size ≤ 1000 := by
    rw [ByteArray.size_extract]
    omega
  generalize a0.extract 0 (mn (a0.size : Int) 1000).toNat = s at hs
  refine Ev.bind (cload_ev s (by omega)) (Ev.bind (rload_ev s (by omega)) ?_)
  obtain ⟨h1, h2⟩ := loads_same s.data.toList (by simp; omega)
  rw [← h1]
  generalize loadC s.data.toList = r at h2
  have hl : r.2.1.length < 1000 := by
    rcases h2 with rfl | ⟨ep, l, _, _, rfl, h⟩
    · decide
    · exact h
  refine Ev.bind (rsame_ev r.1 r.1 r.2.1 r.2.1 hl) ?_
  simp only [and_self, decide_true, if_true]
  exact Ev.bind works_ev (Ev.now _)
end Go.Proofs.Yteppmdafdopehaa.Pure
