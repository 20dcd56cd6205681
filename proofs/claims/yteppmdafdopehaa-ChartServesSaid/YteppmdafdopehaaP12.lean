-- Cut down by the session's own program (wip/tools/prune.py) to what this claim uses; before that: written or printed by the session's programs.
import Derived.Test.YteppmdafdopehaaP0
import Derived.Test.YteppmdafdopehaaP9
namespace Go.Proofs.Yteppmdafdopehaa.P
open Go.RowKit Go.Proofs.YteppmdafdopehaaW.PrintWords Go.Proofs.YteppmdafdopehaaW.PrintLast Go.Proofs.YteppmdafdopehaaW.PrintMore
attribute [local go_sem] max2_int min2_int max_two min_two max_three min_three max_four min_four   -- for this text's walks alone
set_option linter.unusedVariables false
set_option linter.unusedSimpArgs false
def racewayref04_In.f (a0_0 : Int) (a0_1 : Int) (a1 : Int) : Option (Bool) := (racewayref04_May.f a0_0 a0_1).bind fun t193 => (if t193 = true then (if a0_0 ≤ a1 then (some (decide (a1 < a0_1))) else (some false)) else (some false))
def racewayref15_Of.l0 : Nat → Int → Int → Int → List (S43) → Option (Int)
  | 0, _, _, _, _ => none
  | k + 1, x1, x5, x195000, x195001 => if x5 < (x195001.length : Int) then (if 0 ≤ x5 then ((racewayref04_In.f ((rd_T43 x195001 x5).f0.f0) ((rd_T43 x195001 x5).f0.f1) x1).bind fun t196 => (if t196 = true then (some ((rd_T43 x195001 x5).f1)) else (racewayref15_Of.l0 k x1 (wrap64 (x5 + 1)) x195000 x195001))) else (none)) else (some 0)
def racewayref15_Of.f (k : Nat) (a0_0 : Int) (l0_1 : List (S43)) (a1 : Int) : Option (Int) := racewayref15_Of.l0 k a1 0 a0_0 l0_1
theorem racewayref15_Of.mono_l : ∀ k, (∀ y0 y1 y2 y3, LeO (racewayref15_Of.l0 k y0 y1 y2 y3) (racewayref15_Of.l0 (k + 1) y0 y1 y2 y3))
  | 0 => fun _ _ _ _ r h => by simp [racewayref15_Of.l0] at h
  | k + 1 => by
    have ih0 := racewayref15_Of.mono_l k
    · intro y0 y1 y2 y3
      unfold racewayref15_Of.l0
      repeat' first
      | (with_reducible exact ih0 _ _ _ _)
      | (with_reducible exact LeO.refl _)
      | (with_reducible exact LeO.none _)
      | (with_reducible refine LeO.ite ?_ ?_)
      | (with_reducible refine LeO.bind ?_ (fun _ => ?_))
      | exact ih0 _ _ _ _
      | exact LeO.none _
      | refine LeO.ite ?_ ?_
      | refine LeO.bind ?_ (fun _ => ?_)
theorem racewayref15_Of.mono : ∀ a0 a1 a2 k, LeO (racewayref15_Of.f k a0 a1 a2) (racewayref15_Of.f (k + 1) a0 a1 a2) := by
  intro a0 a1 a2 k
  have ih0 := racewayref15_Of.mono_l k
  unfold racewayref15_Of.f
  repeat' first
      | (with_reducible exact ih0 _ _ _ _)
      | (with_reducible exact LeO.refl _)
      | (with_reducible exact LeO.none _)
      | (with_reducible refine LeO.ite ?_ ?_)
      | (with_reducible refine LeO.bind ?_ (fun _ => ?_))
      | exact ih0 _ _ _ _
      | exact LeO.none _
      | refine LeO.ite ?_ ?_
      | refine LeO.bind ?_ (fun _ => ?_)
end Go.Proofs.Yteppmdafdopehaa.P
