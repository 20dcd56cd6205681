-- Written by the session's own program (wip/tools/myprint.py), over the kit's printer. Lean checks it.
import Derived.Test.YteppmdafdopehaaP0
import Derived.Test.YteppmdafdopehaaP3
import Derived.Test.YteppmdafdopehaaP5
import Derived.Test.YteppmdafdopehaaP6
import Derived.Test.YteppmdafdopehaaP14
import Derived.Test.YteppmdafdopehaaP15
import Derived.Test.YteppmdafdopehaaP16
import Derived.Test.YteppmdafdopehaaP17
import Derived.Test.YteppmdafdopehaaGMove
namespace Go.Proofs.Yteppmdafdopehaa.P
open Go.RowKit Go.Proofs.YteppmdafdopehaaW.PrintWords Go.Proofs.YteppmdafdopehaaW.PrintLast Go.Proofs.YteppmdafdopehaaW.PrintMore
attribute [local go_sem] max2_int min2_int max_two min_two max_three min_three max_four min_four   -- for this text's walks alone
set_option linter.unusedVariables false
set_option linter.unusedSimpArgs false

/-! ### racewaylaw15_ChartServes: function 4 -/
mutual
def racewaylaw15_ChartServes.l0 : Nat → List (S39) → Int → Int → Int → List (S43) → Option (Bool)
  | 0, _, _, _, _, _ => none
  | k + 1, x1, x2, x9, x273000, x273001 => if x9 < (x1.length : Int) then (racewaylaw15_ChartServes.j1 k x1 x2 x9 (decide (x9 < 30)) x273000 x273001) else (racewaylaw15_ChartServes.j1 k x1 x2 x9 false x273000 x273001)
def racewaylaw15_ChartServes.j1 : Nat → List (S39) → Int → Int → Bool → Int → List (S43) → Option (Bool)
  | 0, _, _, _, _, _, _ => none
  | k + 1, x1, x2, x9, x38, x273000, x273001 => if x38 = true then (if 0 ≤ x9 then (if x9 < (x1.length : Int) then ((chart_Move.f k x273000 x273001 ((rd_T39 x1 x9).f0.f0) ((rd_T39 x1 x9).f0.f1) ((rd_T39 x1 x9).f1)).bind fun bt275 => (if bt275.2.2 = 0 then (racewaylaw15_ChartServes.l1 k x1 x2 x9 ([] : List (S26)) bt275.2.1 (bt275.2.1.length : Int) 0 x273000 x273001 bt275.1 bt275.2.1) else ((place_May.f ((rd_T39 x1 x9).f0.f0) ((rd_T39 x1 x9).f0.f1)).bind fun t282 => (if t282 = true then (if ((rd_T39 x1 x9).f1) ≥ 1 then (racewaylaw15_ChartServes.j2 k x1 x2 x9 (decide (((rd_T39 x1 x9).f1) ≤ 6)) x273000 x273001) else (racewaylaw15_ChartServes.j2 k x1 x2 x9 false x273000 x273001)) else (racewaylaw15_ChartServes.j2 k x1 x2 x9 false x273000 x273001))))) else (none)) else (none)) else ((racewaylaw15_works.f k).bind fun t311 => (some t311))
def racewaylaw15_ChartServes.l1 : Nat → List (S39) → Int → Int → List (S26) → List (S43) → Int → Int → Int → List (S43) → Int → List (S43) → Option (Bool)
  | 0, _, _, _, _, _, _, _, _, _, _, _ => none
  | k + 1, x1, x2, x9, x12, x81, x82, x83, x273000, x273001, x281000, x281001 => if x83 < x82 then (if 0 ≤ x83 then (if x83 < (x81.length : Int) then (if x12.length < 8796093022208 then (racewaylaw15_ChartServes.l1 k x1 x2 x9 (x12 ++ [(⟨(rd_T43 x81 x83).f0.f0, (rd_T43 x81 x83).f0.f1⟩ : S26)]) x81 x82 (wrap64 (x83 + 1)) x273000 x273001 x281000 x281001) else (none)) else (none)) else (none)) else ((chart_May.f k x281000 x281001).bind fun t290 => (if t290 = true then ((place_Covers.f k x12).bind fun t291 => (racewaylaw15_ChartServes.j4 k x1 x2 x9 (!t291) x273000 x273001 x281000 x281001)) else (racewaylaw15_ChartServes.j4 k x1 x2 x9 true x273000 x273001 x281000 x281001)))
def racewaylaw15_ChartServes.j4 : Nat → List (S39) → Int → Int → Bool → Int → List (S43) → Int → List (S43) → Option (Bool)
  | 0, _, _, _, _, _, _, _, _ => none
  | k + 1, x1, x2, x9, x100, x273000, x273001, x281000, x281001 => if x100 = true then (some false) else (if 0 ≤ x9 then (if x9 < (x1.length : Int) then ((some (([x2, (rd_T39 x1 x9).f0.f0, wrap64 (((rd_T39 x1 x9).f0.f1) - 1), (rd_T39 x1 x9).f0.f1, wrap64 (((rd_T39 x1 x9).f0.f0) - 1), 0, 65535] : List Int) : List Int)).bind fun y296 => (racewaylaw15_ChartServes.l2 k x1 x2 x9 false y296 (y296.length : Int) 0 x273000 x273001 x281000 x281001)) else (none)) else (none))
def racewaylaw15_ChartServes.l2 : Nat → List (S39) → Int → Int → Bool → List Int → Int → Int → Int → List (S43) → Int → List (S43) → Option (Bool)
  | 0, _, _, _, _, _, _, _, _, _, _, _ => none
  | k + 1, x1, x2, x9, x15, x128, x129, x130, x273000, x273001, x281000, x281001 => if x130 < x129 then (if 0 ≤ x130 then (if x130 < (x128.length : Int) then ((chart_Of.f k x273000 x273001 (rd x128 x130)).bind fun t300 => ((chart_Of.f k x281000 x281001 (rd x128 x130)).bind fun t301 => (if 0 ≤ x9 then (if x9 < (x1.length : Int) then ((place_In.f ((rd_T39 x1 x9).f0.f0) ((rd_T39 x1 x9).f0.f1) (rd x128 x130)).bind fun t303 => (if t303 = true then (if t301 = ((rd_T39 x1 x9).f1) then ((place_In.f ((rd_T39 x1 x9).f0.f0) ((rd_T39 x1 x9).f0.f1) (rd x128 x130)).bind fun t306 => (if t306 = true then (racewaylaw15_ChartServes.j6 k x1 x2 x9 x15 t300 t301 x128 x129 x130 false x273000 x273001 x281000 x281001) else (racewaylaw15_ChartServes.j6 k x1 x2 x9 x15 t300 t301 x128 x129 x130 (t301 != t300) x273000 x273001 x281000 x281001))) else (racewaylaw15_ChartServes.j6 k x1 x2 x9 x15 t300 t301 x128 x129 x130 true x273000 x273001 x281000 x281001)) else ((place_In.f ((rd_T39 x1 x9).f0.f0) ((rd_T39 x1 x9).f0.f1) (rd x128 x130)).bind fun t308 => (if t308 = true then (racewaylaw15_ChartServes.j6 k x1 x2 x9 x15 t300 t301 x128 x129 x130 false x273000 x273001 x281000 x281001) else (racewaylaw15_ChartServes.j6 k x1 x2 x9 x15 t300 t301 x128 x129 x130 (t301 != t300) x273000 x273001 x281000 x281001))))) else (none)) else (none)))) else (none)) else (none)) else (if x15 = true then (if x281000 = (wrap64 (x273000 + 1)) then (if x281000 < x273000 then (racewaylaw15_ChartServes.j7 k x1 x2 x9 true x281000 x281001) else (if x281000 = x273000 then ((chart_Same.f k x273000 x273001 x281000 x281001).bind fun t309 => (racewaylaw15_ChartServes.j7 k x1 x2 x9 (!t309) x281000 x281001)) else (racewaylaw15_ChartServes.j7 k x1 x2 x9 false x281000 x281001))) else (racewaylaw15_ChartServes.j7 k x1 x2 x9 true x281000 x281001)) else (if x281000 < x273000 then (racewaylaw15_ChartServes.j7 k x1 x2 x9 true x281000 x281001) else (if x281000 = x273000 then ((chart_Same.f k x273000 x273001 x281000 x281001).bind fun t310 => (racewaylaw15_ChartServes.j7 k x1 x2 x9 (!t310) x281000 x281001)) else (racewaylaw15_ChartServes.j7 k x1 x2 x9 false x281000 x281001))))
def racewaylaw15_ChartServes.j6 : Nat → List (S39) → Int → Int → Bool → Int → Int → List Int → Int → Int → Bool → Int → List (S43) → Int → List (S43) → Option (Bool)
  | 0, _, _, _, _, _, _, _, _, _, _, _, _, _, _ => none
  | k + 1, x1, x2, x9, x15, x18, x19, x128, x129, x130, x170, x273000, x273001, x281000, x281001 => if x170 = true then (some false) else (if x15 = true then (racewaylaw15_ChartServes.l2 k x1 x2 x9 true x128 x129 (wrap64 (x130 + 1)) x273000 x273001 x281000 x281001) else (racewaylaw15_ChartServes.l2 k x1 x2 x9 (x19 != x18) x128 x129 (wrap64 (x130 + 1)) x273000 x273001 x281000 x281001))
def racewaylaw15_ChartServes.j7 : Nat → List (S39) → Int → Int → Bool → Int → List (S43) → Option (Bool)
  | 0, _, _, _, _, _, _ => none
  | k + 1, x1, x2, x9, x206, x281000, x281001 => if x206 = true then (some false) else (racewaylaw15_ChartServes.l0 k x1 x2 (wrap64 (x9 + 1)) x281000 x281001)
def racewaylaw15_ChartServes.j2 : Nat → List (S39) → Int → Int → Bool → Int → List (S43) → Option (Bool)
  | 0, _, _, _, _, _, _ => none
  | k + 1, x1, x2, x9, x79, x273000, x273001 => if x79 = true then (some false) else (racewaylaw15_ChartServes.l0 k x1 x2 (wrap64 (x9 + 1)) x273000 x273001)
end
def racewaylaw15_ChartServes.f (k : Nat) (a0 : Int) (l1 : List (S39)) (a2 : Int) : Option (Bool) := (chart_First.f k (wrap64 (1 + (Int.tmod (wrap64 ((Int.tmod a0 6) + 6)) 6)))).bind fun bt267 => (if bt267.2.2 = 0 then (racewaylaw15_ChartServes.l0 k l1 a2 0 bt267.1 bt267.2.1) else (some false))
theorem racewaylaw15_ChartServes.mono_l : ∀ k, (∀ y0 y1 y2 y3 y4, LeO (racewaylaw15_ChartServes.l0 k y0 y1 y2 y3 y4) (racewaylaw15_ChartServes.l0 (k + 1) y0 y1 y2 y3 y4)) ∧ (∀ y0 y1 y2 y3 y4 y5, LeO (racewaylaw15_ChartServes.j1 k y0 y1 y2 y3 y4 y5) (racewaylaw15_ChartServes.j1 (k + 1) y0 y1 y2 y3 y4 y5)) ∧ (∀ y0 y1 y2 y3 y4 y5 y6 y7 y8 y9 y10, LeO (racewaylaw15_ChartServes.l1 k y0 y1 y2 y3 y4 y5 y6 y7 y8 y9 y10) (racewaylaw15_ChartServes.l1 (k + 1) y0 y1 y2 y3 y4 y5 y6 y7 y8 y9 y10)) ∧ (∀ y0 y1 y2 y3 y4 y5 y6 y7, LeO (racewaylaw15_ChartServes.j4 k y0 y1 y2 y3 y4 y5 y6 y7) (racewaylaw15_ChartServes.j4 (k + 1) y0 y1 y2 y3 y4 y5 y6 y7)) ∧ (∀ y0 y1 y2 y3 y4 y5 y6 y7 y8 y9 y10, LeO (racewaylaw15_ChartServes.l2 k y0 y1 y2 y3 y4 y5 y6 y7 y8 y9 y10) (racewaylaw15_ChartServes.l2 (k + 1) y0 y1 y2 y3 y4 y5 y6 y7 y8 y9 y10)) ∧ (∀ y0 y1 y2 y3 y4 y5 y6 y7 y8 y9 y10 y11 y12 y13, LeO (racewaylaw15_ChartServes.j6 k y0 y1 y2 y3 y4 y5 y6 y7 y8 y9 y10 y11 y12 y13) (racewaylaw15_ChartServes.j6 (k + 1) y0 y1 y2 y3 y4 y5 y6 y7 y8 y9 y10 y11 y12 y13)) ∧ (∀ y0 y1 y2 y3 y4 y5, LeO (racewaylaw15_ChartServes.j7 k y0 y1 y2 y3 y4 y5) (racewaylaw15_ChartServes.j7 (k + 1) y0 y1 y2 y3 y4 y5)) ∧ (∀ y0 y1 y2 y3 y4 y5, LeO (racewaylaw15_ChartServes.j2 k y0 y1 y2 y3 y4 y5) (racewaylaw15_ChartServes.j2 (k + 1) y0 y1 y2 y3 y4 y5))
  | 0 => ⟨fun _ _ _ _ _ r h => by simp [racewaylaw15_ChartServes.l0] at h, fun _ _ _ _ _ _ r h => by simp [racewaylaw15_ChartServes.j1] at h, fun _ _ _ _ _ _ _ _ _ _ _ r h => by simp [racewaylaw15_ChartServes.l1] at h, fun _ _ _ _ _ _ _ _ r h => by simp [racewaylaw15_ChartServes.j4] at h, fun _ _ _ _ _ _ _ _ _ _ _ r h => by simp [racewaylaw15_ChartServes.l2] at h, fun _ _ _ _ _ _ _ _ _ _ _ _ _ _ r h => by simp [racewaylaw15_ChartServes.j6] at h, fun _ _ _ _ _ _ r h => by simp [racewaylaw15_ChartServes.j7] at h, fun _ _ _ _ _ _ r h => by simp [racewaylaw15_ChartServes.j2] at h⟩
  | k + 1 => by
    obtain ⟨ih0, ih1, ih2, ih3, ih4, ih5, ih6, ih7⟩ := racewaylaw15_ChartServes.mono_l k
    refine ⟨?_, ?_, ?_, ?_, ?_, ?_, ?_, ?_⟩
    · intro y0 y1 y2 y3 y4
      unfold racewaylaw15_ChartServes.l0
      repeat' first
      | (with_reducible exact ih0 _ _ _ _ _)
      | (with_reducible exact ih1 _ _ _ _ _ _)
      | (with_reducible exact ih2 _ _ _ _ _ _ _ _ _ _ _)
      | (with_reducible exact ih3 _ _ _ _ _ _ _ _)
      | (with_reducible exact ih4 _ _ _ _ _ _ _ _ _ _ _)
      | (with_reducible exact ih5 _ _ _ _ _ _ _ _ _ _ _ _ _ _)
      | (with_reducible exact ih6 _ _ _ _ _ _)
      | (with_reducible exact ih7 _ _ _ _ _ _)
      | (with_reducible exact chart_First.mono _ _)
      | (with_reducible exact chart_May.mono _ _ _)
      | (with_reducible exact chart_Move.mono _ _ _ _ _ _)
      | (with_reducible exact chart_Of.mono _ _ _ _)
      | (with_reducible exact chart_Same.mono _ _ _ _ _)
      | (with_reducible exact place_Covers.mono _ _)
      | (with_reducible exact racewaylaw15_works.mono _)
      | (with_reducible exact LeO.refl _)
      | (with_reducible exact LeO.none _)
      | (with_reducible refine LeO.ite ?_ ?_)
      | (with_reducible refine LeO.bind ?_ (fun _ => ?_))
      | exact ih0 _ _ _ _ _
      | exact ih1 _ _ _ _ _ _
      | exact ih2 _ _ _ _ _ _ _ _ _ _ _
      | exact ih3 _ _ _ _ _ _ _ _
      | exact ih4 _ _ _ _ _ _ _ _ _ _ _
      | exact ih5 _ _ _ _ _ _ _ _ _ _ _ _ _ _
      | exact ih6 _ _ _ _ _ _
      | exact ih7 _ _ _ _ _ _
      | exact chart_First.mono _ _
      | exact chart_May.mono _ _ _
      | exact chart_Move.mono _ _ _ _ _ _
      | exact chart_Of.mono _ _ _ _
      | exact chart_Same.mono _ _ _ _ _
      | exact place_Covers.mono _ _
      | exact racewaylaw15_works.mono _
      | exact LeO.none _
      | refine LeO.ite ?_ ?_
      | refine LeO.bind ?_ (fun _ => ?_)
    · intro y0 y1 y2 y3 y4 y5
      unfold racewaylaw15_ChartServes.j1
      repeat' first
      | (with_reducible exact ih0 _ _ _ _ _)
      | (with_reducible exact ih1 _ _ _ _ _ _)
      | (with_reducible exact ih2 _ _ _ _ _ _ _ _ _ _ _)
      | (with_reducible exact ih3 _ _ _ _ _ _ _ _)
      | (with_reducible exact ih4 _ _ _ _ _ _ _ _ _ _ _)
      | (with_reducible exact ih5 _ _ _ _ _ _ _ _ _ _ _ _ _ _)
      | (with_reducible exact ih6 _ _ _ _ _ _)
      | (with_reducible exact ih7 _ _ _ _ _ _)
      | (with_reducible exact chart_First.mono _ _)
      | (with_reducible exact chart_May.mono _ _ _)
      | (with_reducible exact chart_Move.mono _ _ _ _ _ _)
      | (with_reducible exact chart_Of.mono _ _ _ _)
      | (with_reducible exact chart_Same.mono _ _ _ _ _)
      | (with_reducible exact place_Covers.mono _ _)
      | (with_reducible exact racewaylaw15_works.mono _)
      | (with_reducible exact LeO.refl _)
      | (with_reducible exact LeO.none _)
      | (with_reducible refine LeO.ite ?_ ?_)
      | (with_reducible refine LeO.bind ?_ (fun _ => ?_))
      | exact ih0 _ _ _ _ _
      | exact ih1 _ _ _ _ _ _
      | exact ih2 _ _ _ _ _ _ _ _ _ _ _
      | exact ih3 _ _ _ _ _ _ _ _
      | exact ih4 _ _ _ _ _ _ _ _ _ _ _
      | exact ih5 _ _ _ _ _ _ _ _ _ _ _ _ _ _
      | exact ih6 _ _ _ _ _ _
      | exact ih7 _ _ _ _ _ _
      | exact chart_First.mono _ _
      | exact chart_May.mono _ _ _
      | exact chart_Move.mono _ _ _ _ _ _
      | exact chart_Of.mono _ _ _ _
      | exact chart_Same.mono _ _ _ _ _
      | exact place_Covers.mono _ _
      | exact racewaylaw15_works.mono _
      | exact LeO.none _
      | refine LeO.ite ?_ ?_
      | refine LeO.bind ?_ (fun _ => ?_)
    · intro y0 y1 y2 y3 y4 y5 y6 y7 y8 y9 y10
      unfold racewaylaw15_ChartServes.l1
      repeat' first
      | (with_reducible exact ih0 _ _ _ _ _)
      | (with_reducible exact ih1 _ _ _ _ _ _)
      | (with_reducible exact ih2 _ _ _ _ _ _ _ _ _ _ _)
      | (with_reducible exact ih3 _ _ _ _ _ _ _ _)
      | (with_reducible exact ih4 _ _ _ _ _ _ _ _ _ _ _)
      | (with_reducible exact ih5 _ _ _ _ _ _ _ _ _ _ _ _ _ _)
      | (with_reducible exact ih6 _ _ _ _ _ _)
      | (with_reducible exact ih7 _ _ _ _ _ _)
      | (with_reducible exact chart_First.mono _ _)
      | (with_reducible exact chart_May.mono _ _ _)
      | (with_reducible exact chart_Move.mono _ _ _ _ _ _)
      | (with_reducible exact chart_Of.mono _ _ _ _)
      | (with_reducible exact chart_Same.mono _ _ _ _ _)
      | (with_reducible exact place_Covers.mono _ _)
      | (with_reducible exact racewaylaw15_works.mono _)
      | (with_reducible exact LeO.refl _)
      | (with_reducible exact LeO.none _)
      | (with_reducible refine LeO.ite ?_ ?_)
      | (with_reducible refine LeO.bind ?_ (fun _ => ?_))
      | exact ih0 _ _ _ _ _
      | exact ih1 _ _ _ _ _ _
      | exact ih2 _ _ _ _ _ _ _ _ _ _ _
      | exact ih3 _ _ _ _ _ _ _ _
      | exact ih4 _ _ _ _ _ _ _ _ _ _ _
      | exact ih5 _ _ _ _ _ _ _ _ _ _ _ _ _ _
      | exact ih6 _ _ _ _ _ _
      | exact ih7 _ _ _ _ _ _
      | exact chart_First.mono _ _
      | exact chart_May.mono _ _ _
      | exact chart_Move.mono _ _ _ _ _ _
      | exact chart_Of.mono _ _ _ _
      | exact chart_Same.mono _ _ _ _ _
      | exact place_Covers.mono _ _
      | exact racewaylaw15_works.mono _
      | exact LeO.none _
      | refine LeO.ite ?_ ?_
      | refine LeO.bind ?_ (fun _ => ?_)
    · intro y0 y1 y2 y3 y4 y5 y6 y7
      unfold racewaylaw15_ChartServes.j4
      repeat' first
      | (with_reducible exact ih0 _ _ _ _ _)
      | (with_reducible exact ih1 _ _ _ _ _ _)
      | (with_reducible exact ih2 _ _ _ _ _ _ _ _ _ _ _)
      | (with_reducible exact ih3 _ _ _ _ _ _ _ _)
      | (with_reducible exact ih4 _ _ _ _ _ _ _ _ _ _ _)
      | (with_reducible exact ih5 _ _ _ _ _ _ _ _ _ _ _ _ _ _)
      | (with_reducible exact ih6 _ _ _ _ _ _)
      | (with_reducible exact ih7 _ _ _ _ _ _)
      | (with_reducible exact chart_First.mono _ _)
      | (with_reducible exact chart_May.mono _ _ _)
      | (with_reducible exact chart_Move.mono _ _ _ _ _ _)
      | (with_reducible exact chart_Of.mono _ _ _ _)
      | (with_reducible exact chart_Same.mono _ _ _ _ _)
      | (with_reducible exact place_Covers.mono _ _)
      | (with_reducible exact racewaylaw15_works.mono _)
      | (with_reducible exact LeO.refl _)
      | (with_reducible exact LeO.none _)
      | (with_reducible refine LeO.ite ?_ ?_)
      | (with_reducible refine LeO.bind ?_ (fun _ => ?_))
      | exact ih0 _ _ _ _ _
      | exact ih1 _ _ _ _ _ _
      | exact ih2 _ _ _ _ _ _ _ _ _ _ _
      | exact ih3 _ _ _ _ _ _ _ _
      | exact ih4 _ _ _ _ _ _ _ _ _ _ _
      | exact ih5 _ _ _ _ _ _ _ _ _ _ _ _ _ _
      | exact ih6 _ _ _ _ _ _
      | exact ih7 _ _ _ _ _ _
      | exact chart_First.mono _ _
      | exact chart_May.mono _ _ _
      | exact chart_Move.mono _ _ _ _ _ _
      | exact chart_Of.mono _ _ _ _
      | exact chart_Same.mono _ _ _ _ _
      | exact place_Covers.mono _ _
      | exact racewaylaw15_works.mono _
      | exact LeO.none _
      | refine LeO.ite ?_ ?_
      | refine LeO.bind ?_ (fun _ => ?_)
    · intro y0 y1 y2 y3 y4 y5 y6 y7 y8 y9 y10
      unfold racewaylaw15_ChartServes.l2
      repeat' first
      | (with_reducible exact ih0 _ _ _ _ _)
      | (with_reducible exact ih1 _ _ _ _ _ _)
      | (with_reducible exact ih2 _ _ _ _ _ _ _ _ _ _ _)
      | (with_reducible exact ih3 _ _ _ _ _ _ _ _)
      | (with_reducible exact ih4 _ _ _ _ _ _ _ _ _ _ _)
      | (with_reducible exact ih5 _ _ _ _ _ _ _ _ _ _ _ _ _ _)
      | (with_reducible exact ih6 _ _ _ _ _ _)
      | (with_reducible exact ih7 _ _ _ _ _ _)
      | (with_reducible exact chart_First.mono _ _)
      | (with_reducible exact chart_May.mono _ _ _)
      | (with_reducible exact chart_Move.mono _ _ _ _ _ _)
      | (with_reducible exact chart_Of.mono _ _ _ _)
      | (with_reducible exact chart_Same.mono _ _ _ _ _)
      | (with_reducible exact place_Covers.mono _ _)
      | (with_reducible exact racewaylaw15_works.mono _)
      | (with_reducible exact LeO.refl _)
      | (with_reducible exact LeO.none _)
      | (with_reducible refine LeO.ite ?_ ?_)
      | (with_reducible refine LeO.bind ?_ (fun _ => ?_))
      | exact ih0 _ _ _ _ _
      | exact ih1 _ _ _ _ _ _
      | exact ih2 _ _ _ _ _ _ _ _ _ _ _
      | exact ih3 _ _ _ _ _ _ _ _
      | exact ih4 _ _ _ _ _ _ _ _ _ _ _
      | exact ih5 _ _ _ _ _ _ _ _ _ _ _ _ _ _
      | exact ih6 _ _ _ _ _ _
      | exact ih7 _ _ _ _ _ _
      | exact chart_First.mono _ _
      | exact chart_May.mono _ _ _
      | exact chart_Move.mono _ _ _ _ _ _
      | exact chart_Of.mono _ _ _ _
      | exact chart_Same.mono _ _ _ _ _
      | exact place_Covers.mono _ _
      | exact racewaylaw15_works.mono _
      | exact LeO.none _
      | refine LeO.ite ?_ ?_
      | refine LeO.bind ?_ (fun _ => ?_)
    · intro y0 y1 y2 y3 y4 y5 y6 y7 y8 y9 y10 y11 y12 y13
      unfold racewaylaw15_ChartServes.j6
      repeat' first
      | (with_reducible exact ih0 _ _ _ _ _)
      | (with_reducible exact ih1 _ _ _ _ _ _)
      | (with_reducible exact ih2 _ _ _ _ _ _ _ _ _ _ _)
      | (with_reducible exact ih3 _ _ _ _ _ _ _ _)
      | (with_reducible exact ih4 _ _ _ _ _ _ _ _ _ _ _)
      | (with_reducible exact ih5 _ _ _ _ _ _ _ _ _ _ _ _ _ _)
      | (with_reducible exact ih6 _ _ _ _ _ _)
      | (with_reducible exact ih7 _ _ _ _ _ _)
      | (with_reducible exact chart_First.mono _ _)
      | (with_reducible exact chart_May.mono _ _ _)
      | (with_reducible exact chart_Move.mono _ _ _ _ _ _)
      | (with_reducible exact chart_Of.mono _ _ _ _)
      | (with_reducible exact chart_Same.mono _ _ _ _ _)
      | (with_reducible exact place_Covers.mono _ _)
      | (with_reducible exact racewaylaw15_works.mono _)
      | (with_reducible exact LeO.refl _)
      | (with_reducible exact LeO.none _)
      | (with_reducible refine LeO.ite ?_ ?_)
      | (with_reducible refine LeO.bind ?_ (fun _ => ?_))
      | exact ih0 _ _ _ _ _
      | exact ih1 _ _ _ _ _ _
      | exact ih2 _ _ _ _ _ _ _ _ _ _ _
      | exact ih3 _ _ _ _ _ _ _ _
      | exact ih4 _ _ _ _ _ _ _ _ _ _ _
      | exact ih5 _ _ _ _ _ _ _ _ _ _ _ _ _ _
      | exact ih6 _ _ _ _ _ _
      | exact ih7 _ _ _ _ _ _
      | exact chart_First.mono _ _
      | exact chart_May.mono _ _ _
      | exact chart_Move.mono _ _ _ _ _ _
      | exact chart_Of.mono _ _ _ _
      | exact chart_Same.mono _ _ _ _ _
      | exact place_Covers.mono _ _
      | exact racewaylaw15_works.mono _
      | exact LeO.none _
      | refine LeO.ite ?_ ?_
      | refine LeO.bind ?_ (fun _ => ?_)
    · intro y0 y1 y2 y3 y4 y5
      unfold racewaylaw15_ChartServes.j7
      repeat' first
      | (with_reducible exact ih0 _ _ _ _ _)
      | (with_reducible exact ih1 _ _ _ _ _ _)
      | (with_reducible exact ih2 _ _ _ _ _ _ _ _ _ _ _)
      | (with_reducible exact ih3 _ _ _ _ _ _ _ _)
      | (with_reducible exact ih4 _ _ _ _ _ _ _ _ _ _ _)
      | (with_reducible exact ih5 _ _ _ _ _ _ _ _ _ _ _ _ _ _)
      | (with_reducible exact ih6 _ _ _ _ _ _)
      | (with_reducible exact ih7 _ _ _ _ _ _)
      | (with_reducible exact chart_First.mono _ _)
      | (with_reducible exact chart_May.mono _ _ _)
      | (with_reducible exact chart_Move.mono _ _ _ _ _ _)
      | (with_reducible exact chart_Of.mono _ _ _ _)
      | (with_reducible exact chart_Same.mono _ _ _ _ _)
      | (with_reducible exact place_Covers.mono _ _)
      | (with_reducible exact racewaylaw15_works.mono _)
      | (with_reducible exact LeO.refl _)
      | (with_reducible exact LeO.none _)
      | (with_reducible refine LeO.ite ?_ ?_)
      | (with_reducible refine LeO.bind ?_ (fun _ => ?_))
      | exact ih0 _ _ _ _ _
      | exact ih1 _ _ _ _ _ _
      | exact ih2 _ _ _ _ _ _ _ _ _ _ _
      | exact ih3 _ _ _ _ _ _ _ _
      | exact ih4 _ _ _ _ _ _ _ _ _ _ _
      | exact ih5 _ _ _ _ _ _ _ _ _ _ _ _ _ _
      | exact ih6 _ _ _ _ _ _
      | exact ih7 _ _ _ _ _ _
      | exact chart_First.mono _ _
      | exact chart_May.mono _ _ _
      | exact chart_Move.mono _ _ _ _ _ _
      | exact chart_Of.mono _ _ _ _
      | exact chart_Same.mono _ _ _ _ _
      | exact place_Covers.mono _ _
      | exact racewaylaw15_works.mono _
      | exact LeO.none _
      | refine LeO.ite ?_ ?_
      | refine LeO.bind ?_ (fun _ => ?_)
    · intro y0 y1 y2 y3 y4 y5
      unfold racewaylaw15_ChartServes.j2
      repeat' first
      | (with_reducible exact ih0 _ _ _ _ _)
      | (with_reducible exact ih1 _ _ _ _ _ _)
      | (with_reducible exact ih2 _ _ _ _ _ _ _ _ _ _ _)
      | (with_reducible exact ih3 _ _ _ _ _ _ _ _)
      | (with_reducible exact ih4 _ _ _ _ _ _ _ _ _ _ _)
      | (with_reducible exact ih5 _ _ _ _ _ _ _ _ _ _ _ _ _ _)
      | (with_reducible exact ih6 _ _ _ _ _ _)
      | (with_reducible exact ih7 _ _ _ _ _ _)
      | (with_reducible exact chart_First.mono _ _)
      | (with_reducible exact chart_May.mono _ _ _)
      | (with_reducible exact chart_Move.mono _ _ _ _ _ _)
      | (with_reducible exact chart_Of.mono _ _ _ _)
      | (with_reducible exact chart_Same.mono _ _ _ _ _)
      | (with_reducible exact place_Covers.mono _ _)
      | (with_reducible exact racewaylaw15_works.mono _)
      | (with_reducible exact LeO.refl _)
      | (with_reducible exact LeO.none _)
      | (with_reducible refine LeO.ite ?_ ?_)
      | (with_reducible refine LeO.bind ?_ (fun _ => ?_))
      | exact ih0 _ _ _ _ _
      | exact ih1 _ _ _ _ _ _
      | exact ih2 _ _ _ _ _ _ _ _ _ _ _
      | exact ih3 _ _ _ _ _ _ _ _
      | exact ih4 _ _ _ _ _ _ _ _ _ _ _
      | exact ih5 _ _ _ _ _ _ _ _ _ _ _ _ _ _
      | exact ih6 _ _ _ _ _ _
      | exact ih7 _ _ _ _ _ _
      | exact chart_First.mono _ _
      | exact chart_May.mono _ _ _
      | exact chart_Move.mono _ _ _ _ _ _
      | exact chart_Of.mono _ _ _ _
      | exact chart_Same.mono _ _ _ _ _
      | exact place_Covers.mono _ _
      | exact racewaylaw15_works.mono _
      | exact LeO.none _
      | refine LeO.ite ?_ ?_
      | refine LeO.bind ?_ (fun _ => ?_)
theorem racewaylaw15_ChartServes.mono : ∀ a0 a1 a2 k, LeO (racewaylaw15_ChartServes.f k a0 a1 a2) (racewaylaw15_ChartServes.f (k + 1) a0 a1 a2) := by
  intro a0 a1 a2 k
  obtain ⟨ih0, ih1, ih2, ih3, ih4, ih5, ih6, ih7⟩ := racewaylaw15_ChartServes.mono_l k
  unfold racewaylaw15_ChartServes.f
  repeat' first
      | (with_reducible exact ih0 _ _ _ _ _)
      | (with_reducible exact ih1 _ _ _ _ _ _)
      | (with_reducible exact ih2 _ _ _ _ _ _ _ _ _ _ _)
      | (with_reducible exact ih3 _ _ _ _ _ _ _ _)
      | (with_reducible exact ih4 _ _ _ _ _ _ _ _ _ _ _)
      | (with_reducible exact ih5 _ _ _ _ _ _ _ _ _ _ _ _ _ _)
      | (with_reducible exact ih6 _ _ _ _ _ _)
      | (with_reducible exact ih7 _ _ _ _ _ _)
      | (with_reducible exact chart_First.mono _ _)
      | (with_reducible exact chart_May.mono _ _ _)
      | (with_reducible exact chart_Move.mono _ _ _ _ _ _)
      | (with_reducible exact chart_Of.mono _ _ _ _)
      | (with_reducible exact chart_Same.mono _ _ _ _ _)
      | (with_reducible exact place_Covers.mono _ _)
      | (with_reducible exact racewaylaw15_works.mono _)
      | (with_reducible exact LeO.refl _)
      | (with_reducible exact LeO.none _)
      | (with_reducible refine LeO.ite ?_ ?_)
      | (with_reducible refine LeO.bind ?_ (fun _ => ?_))
      | exact ih0 _ _ _ _ _
      | exact ih1 _ _ _ _ _ _
      | exact ih2 _ _ _ _ _ _ _ _ _ _ _
      | exact ih3 _ _ _ _ _ _ _ _
      | exact ih4 _ _ _ _ _ _ _ _ _ _ _
      | exact ih5 _ _ _ _ _ _ _ _ _ _ _ _ _ _
      | exact ih6 _ _ _ _ _ _
      | exact ih7 _ _ _ _ _ _
      | exact chart_First.mono _ _
      | exact chart_May.mono _ _ _
      | exact chart_Move.mono _ _ _ _ _ _
      | exact chart_Of.mono _ _ _ _
      | exact chart_Same.mono _ _ _ _ _
      | exact place_Covers.mono _ _
      | exact racewaylaw15_works.mono _
      | exact LeO.none _
      | refine LeO.ite ?_ ?_
      | refine LeO.bind ?_ (fun _ => ?_)
end Go.Proofs.Yteppmdafdopehaa.P
