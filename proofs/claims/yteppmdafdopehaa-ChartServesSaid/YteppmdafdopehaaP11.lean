-- Cut down by the session's own program (wip/tools/prune.py) to what this claim uses; before that: written or printed by the session's programs.
import Derived.Test.YteppmdafdopehaaP0
import Derived.Test.YteppmdafdopehaaP9
import Derived.Test.YteppmdafdopehaaP10
namespace Go.Proofs.Yteppmdafdopehaa.P
open Go.RowKit Go.Proofs.YteppmdafdopehaaW.PrintWords Go.Proofs.YteppmdafdopehaaW.PrintLast Go.Proofs.YteppmdafdopehaaW.PrintMore
attribute [local go_sem] max2_int min2_int max_two min_two max_three min_three max_four min_four   -- for this text's walks alone
set_option linter.unusedVariables false
set_option linter.unusedSimpArgs false
def racewayref04_Bounds.l0 : Nat → List (S26) → List Int → Int → Option (List Int)
  | 0, _, _, _ => none
  | k + 1, x0, x3, x4 => if x4 < (x0.length : Int) then (if 0 ≤ x4 then ((racewayref04_May.f ((rd_T26 x0 x4).f0) ((rd_T26 x0 x4).f1)).bind fun t183 => (if t183 = true then ((racewayref04_into.f k x3 ((rd_T26 x0 x4).f0)).bind fun t185 => ((racewayref04_into.f k t185 ((rd_T26 x0 x4).f1)).bind fun t189 => (racewayref04_Bounds.l0 k x0 t189 (wrap64 (x4 + 1))))) else (racewayref04_Bounds.l0 k x0 x3 (wrap64 (x4 + 1))))) else (none)) else (some x3)
def racewayref04_Bounds.f (k : Nat) (l0 : List (S26)) : Option (List Int) := racewayref04_Bounds.l0 k l0 (([0] : List Int)) 0
theorem racewayref04_Bounds.mono_l : ∀ k, (∀ y0 y1 y2, LeO (racewayref04_Bounds.l0 k y0 y1 y2) (racewayref04_Bounds.l0 (k + 1) y0 y1 y2))
  | 0 => fun _ _ _ r h => by simp [racewayref04_Bounds.l0] at h
  | k + 1 => by
    have ih0 := racewayref04_Bounds.mono_l k
    · intro y0 y1 y2
      unfold racewayref04_Bounds.l0
      repeat' first
      | (with_reducible exact ih0 _ _ _)
      | (with_reducible exact racewayref04_into.mono _ _ _)
      | (with_reducible exact LeO.refl _)
      | (with_reducible exact LeO.none _)
      | (with_reducible refine LeO.ite ?_ ?_)
      | (with_reducible refine LeO.bind ?_ (fun _ => ?_))
      | exact ih0 _ _ _
      | exact racewayref04_into.mono _ _ _
      | exact LeO.none _
      | refine LeO.ite ?_ ?_
      | refine LeO.bind ?_ (fun _ => ?_)
theorem racewayref04_Bounds.mono : ∀ a0 k, LeO (racewayref04_Bounds.f k a0) (racewayref04_Bounds.f (k + 1) a0) := by
  intro a0 k
  have ih0 := racewayref04_Bounds.mono_l k
  unfold racewayref04_Bounds.f
  repeat' first
      | (with_reducible exact ih0 _ _ _)
      | (with_reducible exact racewayref04_into.mono _ _ _)
      | (with_reducible exact LeO.refl _)
      | (with_reducible exact LeO.none _)
      | (with_reducible refine LeO.ite ?_ ?_)
      | (with_reducible refine LeO.bind ?_ (fun _ => ?_))
      | exact ih0 _ _ _
      | exact racewayref04_into.mono _ _ _
      | exact LeO.none _
      | refine LeO.ite ?_ ?_
      | refine LeO.bind ?_ (fun _ => ?_)
end Go.Proofs.Yteppmdafdopehaa.P
