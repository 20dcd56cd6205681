/- The plain law: the chapter's example of layer 15 holds; First, few. No program in sight. -/
import Derived.Test.YteppmdafdopehaaPMove15
import Derived.Test.YteppmdafdopehaaP2
import Derived.Test.YteppmdafdopehaaP17
namespace Go.Proofs.Yteppmdafdopehaa.P.C4
open Go.RowKit Go.Proofs.YteppmdafdopehaaW.PrintWords Go.Proofs.YteppmdafdopehaaW.PrintLast
set_option linter.unusedVariables false
def firstC (n : Nat) : List Pc := (List.range n).map fun (i : Nat) => (⟨⟨65536 * (i : Int) / (n : Int), 65536 * ((i : Int) + 1) / (n : Int)⟩, (i : Int) + 1⟩ : Pc)
theorem first_ev (n : Nat) (h0 : 1 ≤ n) (h1 : n ≤ 6) : Ev (fun k => chart_First.f k (n : Int)) (1, firstC n, 0) := by
  refine Ev.of (g := fun k => chart_First.f k (n : Int)) (chart_First.mono (n : Int)) (k := 10) ?_
  obtain rfl | rfl | rfl | rfl | rfl | rfl : n = 1 ∨ n = 2 ∨ n = 3 ∨ n = 4 ∨ n = 5 ∨ n = 6 := by omega
  all_goals decide +kernel
theorem first_may (n : Nat) (h0 : 1 ≤ n) (h1 : n ≤ 6) : mayC 1 (firstC n) = true := by
  obtain rfl | rfl | rfl | rfl | rfl | rfl : n = 1 ∨ n = 2 ∨ n = 3 ∨ n = 4 ∨ n = 5 ∨ n = 6 := by omega
  all_goals decide +kernel
theorem works_ev : Ev (fun k => racewaylaw15_works.f k) true := by
  unfold racewaylaw15_works.f
  refine Ev.bind (first_ev 2 (by omega) (by omega)) ?_
  have h1 := move_ev 1 (firstC 2) ⟨40000, 65536⟩ 1 (by decide)
  have e1 : mvC 1 (firstC 2) ⟨40000, 65536⟩ 1 = (2, [⟨⟨0, 32768⟩, 1⟩, ⟨⟨32768, 40000⟩, 2⟩, ⟨⟨40000, 65536⟩, 1⟩], 0) := by decide +kernel
  rw [e1] at h1
  refine Ev.bind h1 ?_
  have h2 := move_ev 2 [⟨⟨0, 32768⟩, 1⟩, ⟨⟨32768, 40000⟩, 2⟩, ⟨⟨40000, 65536⟩, 1⟩] ⟨40000, 65536⟩ 2 (by decide)
  have e2 : mvC 2 [⟨⟨0, 32768⟩, 1⟩, ⟨⟨32768, 40000⟩, 2⟩, ⟨⟨40000, 65536⟩, 1⟩] ⟨40000, 65536⟩ 2 = (3, [⟨⟨0, 32768⟩, 1⟩, ⟨⟨32768, 65536⟩, 2⟩], 0) := by decide +kernel
  rw [e2] at h2
  refine Ev.bind h2 ?_
  have h3 := of_ev 1 (firstC 2) 40000 (by decide)
  have e3 : ofC 40000 (firstC 2) = 2 := by decide +kernel
  rw [e3] at h3
  refine Ev.congr (f := fun k => (chart_Of.f k 1 (firstC 2) 40000).bind fun t237 => some (t237 == 2)) (fun k => ?_) ?_
  · rw [if_pos rfl, if_pos (by decide), if_pos rfl, if_pos rfl, if_pos (by decide), if_pos rfl, if_pos rfl, if_pos (by decide)]
  · exact Ev.bind (f := fun _ t237 => some (t237 == 2)) h3 (Ev.now _)
end Go.Proofs.Yteppmdafdopehaa.P.C4
