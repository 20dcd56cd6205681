/- The plain law: a move, piece by piece as the code does it and from bound to bound as the document does it, comes to one chart. No program in sight. -/
import Derived.Test.YteppmdafdopehaaPMay15
import Derived.Lib.SplitLaws
import Derived.Test.YteppmdafdopehaaGMove
import Derived.Test.YteppmdafdopehaaGRMove
namespace Go.Proofs.Yteppmdafdopehaa.P.C4
open Go.RowKit Go.Proofs.YteppmdafdopehaaW.PrintWords Go.Proofs.YteppmdafdopehaaW.PrintLast
set_option linter.unusedVariables false
def inR (r : Rg) (p : Int) : Prop := r.f0 ≤ p ∧ p < r.f1
instance (r : Rg) (p : Int) : Decidable (inR r p) := inferInstanceAs (Decidable (_ ∧ _))
/-- what a move comes to -/
def mvC (ep : Int) (l : List Pc) (r : Rg) (tt : Int) : Int × List Pc × Int :=
  if mayC ep l = true ∧ P.mayB r = true ∧ 1 ≤ tt ∧ tt ≤ 6 then moveEnd ep (moveGo r tt l [] false) else (0, [], 2)
theorem shardB_p (tt : Int) : shardB tt = true ↔ 1 ≤ tt ∧ tt ≤ 6 := by unfold shardB; rw [Bool.and_eq_true, decide_eq_true_eq, decide_eq_true_eq]
theorem move_ev (ep : Int) (l : List Pc) (r : Rg) (tt : Int) (h : l.length < 1000) : Ev (fun k => chart_Move.f k ep l r.f0 r.f1 tt) (mvC ep l r tt) := by
  unfold chart_Move.f mvC
  by_cases hc : mayC ep l = true ∧ P.mayB r = true ∧ 1 ≤ tt ∧ tt ≤ 6
  · rw [if_pos hc]
    refine Ev.bind (f := fun k t => if t = true ∧ P.mayB ⟨r.f0, r.f1⟩ = true ∧ shardB tt = true then (if l.length ≤ 100000 then some (moveEnd ep (moveGo ⟨r.f0, r.f1⟩ tt l [] false)) else none) else some (0, [], 2)) (may_ev ep l h) ?_
    rw [hc.1]
    refine Ev.congr (f := fun _ => some (moveEnd ep (moveGo r tt l [] false))) (fun k => ?_) (Ev.now _)
    rw [if_pos ⟨rfl, hc.2.1, (shardB_p tt).2 hc.2.2⟩, if_pos (by omega)]
  · rw [if_neg hc]
    refine Ev.bind (f := fun k t => if t = true ∧ P.mayB ⟨r.f0, r.f1⟩ = true ∧ shardB tt = true then (if l.length ≤ 100000 then some (moveEnd ep (moveGo ⟨r.f0, r.f1⟩ tt l [] false)) else none) else some (0, [], 2)) (may_ev ep l h) ?_
    refine Ev.congr (f := fun _ => some (0, [], 2)) (fun k => ?_) (Ev.now _)
    rw [if_neg (fun e => hc ⟨e.1, e.2.1, (shardB_p tt).1 e.2.2⟩)]
end Go.Proofs.Yteppmdafdopehaa.P.C4
