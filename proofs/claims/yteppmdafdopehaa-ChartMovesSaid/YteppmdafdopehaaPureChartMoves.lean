/- The plain law of ChartMoves: the code's move and the document's come to one chart, for every chart, range and shard. No conditions. -/
import Derived.Test.YteppmdafdopehaaStmChartMoves
import Derived.Test.YteppmdafdopehaaPWorks15
namespace Go.Proofs.Yteppmdafdopehaa.Pure
open Go.RowKit Go.Proofs.Yteppmdafdopehaa.P Go.Proofs.Yteppmdafdopehaa.P.C4 Go.Proofs.YteppmdafdopehaaW.PrintWords Go.Proofs.YteppmdafdopehaaW.PrintLast

theorem moveGo_len (r : S26) (tt : Int) : ∀ (l o : List S43) (ch : Bool), (moveGo r tt l o ch).1.length ≤ o.length + 3 * l.length := by
  intro l
  induction l with
  | nil => intro o ch; simp [moveGo]
  | cons y l ih =>
    intro o ch
    have h1 := ih (moveP r tt y o) (ch || movePc r tt y)
    have h2 := moveP_len r tt y o
    simp only [moveGo, List.length_cons]
    omega
theorem mvC_len (ep : Int) (l : List S43) (r : S26) (tt : Int) : (mvC ep l r tt).2.1.length ≤ 3 * l.length := by
  unfold mvC
  split
  · have h := moveGo_len r tt l [] false
    unfold moveEnd
    split
    · simpa using h
    · split
      · simp
      · simpa using h
  · simp
theorem ChartMoves : racewaylaw15_ChartMoves.Pure := by
  intro a0 l b0 b1 tt h1 h2 h3 h4 h5
  refine Ev.rounds (r := true) ?_
  have hl : (l.take 30).length ≤ 30 := by rw [List.length_take]; omega
  have hml := mvC_len a0 (l.take 30) ⟨b0, b1⟩ tt
  refine Ev.congr (f := fun k => (chart_Move.f k a0 (l.take 30) b0 b1 tt).bind fun bt249 => ((racewayref15_Move.f k a0 (l.take 30) b0 b1 tt).bind fun bt255 => ((racewayref15_Same.f k bt249.1 bt249.2.1 bt255.1 bt255.2.1).bind fun t261 => (if t261 = true then (if bt249.2.2 = bt255.2.2 then ((racewayref15_Same.f k a0 (l.take 30) a0 (l.take 30)).bind fun t262 => (if t262 = true then ((chart_Same.f k a0 (l.take 30) a0 (l.take 30)).bind fun t263 => (if t263 = true then ((chart_Same.f k bt249.1 bt249.2.1 a0 (l.take 30)).bind fun t264 => ((racewayref15_Same.f k bt249.1 bt249.2.1 a0 (l.take 30)).bind fun t265 => (if (t264 == t265) = true then ((racewaylaw15_works.f k).bind fun t266 => (some t266)) else (some false)))) else (some false))) else (some false))) else (some false)) else (some false))))) (fun k => ?_) ?_
  · unfold racewaylaw15_ChartMoves.f
    rw [few_f]
    simp only [Option.bind_some]
    rw [few_f]
    simp only [Option.bind_some, List.take_take]
    rfl
  · refine Ev.bind (move_ev a0 (l.take 30) ⟨b0, b1⟩ tt (by omega)) ?_
    refine Ev.bind (rmove_ev a0 (l.take 30) ⟨b0, b1⟩ tt (by omega)) ?_
    generalize mvC a0 (l.take 30) ⟨b0, b1⟩ tt = X at hml
    refine Ev.bind (rsame_ev X.1 X.1 X.2.1 X.2.1 (by omega)) ?_
    rw [decide_eq_true (show X.1 = X.1 ∧ X.2.1 = X.2.1 from ⟨rfl, rfl⟩)]
    simp only [if_true]
    refine Ev.bind (rsame_ev a0 a0 (l.take 30) (l.take 30) (by omega)) ?_
    rw [decide_eq_true (show a0 = a0 ∧ l.take 30 = l.take 30 from ⟨rfl, rfl⟩)]
    simp only [if_true]
    refine Ev.bind (same_ev a0 a0 (l.take 30) (l.take 30) (by omega)) ?_
    rw [decide_eq_true (show a0 = a0 ∧ l.take 30 = l.take 30 from ⟨rfl, rfl⟩)]
    simp only [if_true]
    refine Ev.bind (same_ev X.1 a0 X.2.1 (l.take 30) (by omega)) ?_
    refine Ev.bind (rsame_ev X.1 a0 X.2.1 (l.take 30) (by omega)) ?_
    simp only [beq_self_eq_true, if_true]
    exact Ev.bind (f := fun _ t => some t) works_ev (Ev.now _)
end Go.Proofs.Yteppmdafdopehaa.Pure
