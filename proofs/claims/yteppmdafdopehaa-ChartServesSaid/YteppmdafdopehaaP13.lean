-- Cut down by the session's own program (wip/tools/prune.py) to what this claim uses; before that: written or printed by the session's programs.
import Derived.Test.YteppmdafdopehaaP0
import Derived.Test.YteppmdafdopehaaP1
namespace Go.Proofs.Yteppmdafdopehaa.P
open Go.RowKit Go.Proofs.YteppmdafdopehaaW.PrintWords Go.Proofs.YteppmdafdopehaaW.PrintLast Go.Proofs.YteppmdafdopehaaW.PrintMore
attribute [local go_sem] max2_int min2_int max_two min_two max_three min_three max_four min_four   -- for this text's walks alone
set_option linter.unusedVariables false
set_option linter.unusedSimpArgs false
attribute [local go_sem high] eqA43
mutual
def racewayref15_Same.j0 : Nat → Bool → Int → List (S43) → Int → List (S43) → Option (Bool)
  | 0, _, _, _, _, _ => none
  | k + 1, x19, x199000, x199001, x200000, x200001 => if x19 = true then (some false) else (racewayref15_Same.l0 k 0 x199000 x199001 x200000 x200001)
def racewayref15_Same.l0 : Nat → Int → Int → List (S43) → Int → List (S43) → Option (Bool)
  | 0, _, _, _, _, _ => none
  | k + 1, x5, x199000, x199001, x200000, x200001 => if x5 < (x199001.length : Int) then (if 0 ≤ x5 then (if x5 < (x200001.length : Int) then (if ((!(((rd_T43 x199001 x5).f0.f0) == ((rd_T43 x200001 x5).f0.f0)) || (!(((rd_T43 x199001 x5).f0.f1) == ((rd_T43 x200001 x5).f0.f1)))) || (!(((rd_T43 x199001 x5).f1) == ((rd_T43 x200001 x5).f1)))) = true then (some false) else (racewayref15_Same.l0 k (wrap64 (x5 + 1)) x199000 x199001 x200000 x200001)) else (none)) else (none)) else (some true)
end
def racewayref15_Same.f (k : Nat) (a0_0 : Int) (l0_1 : List (S43)) (a1_0 : Int) (l1_1 : List (S43)) : Option (Bool) := if a0_0 = a1_0 then (racewayref15_Same.j0 k ((l0_1.length : Int) != (l1_1.length : Int)) a0_0 l0_1 a1_0 l1_1) else (racewayref15_Same.j0 k true a0_0 l0_1 a1_0 l1_1)
theorem racewayref15_Same.mono_l : ∀ k, (∀ y0 y1 y2 y3 y4, LeO (racewayref15_Same.j0 k y0 y1 y2 y3 y4) (racewayref15_Same.j0 (k + 1) y0 y1 y2 y3 y4)) ∧ (∀ y0 y1 y2 y3 y4, LeO (racewayref15_Same.l0 k y0 y1 y2 y3 y4) (racewayref15_Same.l0 (k + 1) y0 y1 y2 y3 y4))
  | 0 => ⟨fun _ _ _ _ _ r h => by simp [racewayref15_Same.j0] at h, fun _ _ _ _ _ r h => by simp [racewayref15_Same.l0] at h⟩
  | k + 1 => by
    obtain ⟨ih0, ih1⟩ := racewayref15_Same.mono_l k
    refine ⟨?_, ?_⟩
    · intro y0 y1 y2 y3 y4
      unfold racewayref15_Same.j0
      repeat' first
      | (with_reducible exact ih0 _ _ _ _ _)
      | (with_reducible exact ih1 _ _ _ _ _)
      | (with_reducible exact LeO.refl _)
      | (with_reducible exact LeO.none _)
      | (with_reducible refine LeO.ite ?_ ?_)
      | (with_reducible refine LeO.bind ?_ (fun _ => ?_))
      | exact ih0 _ _ _ _ _
      | exact ih1 _ _ _ _ _
      | exact LeO.none _
      | refine LeO.ite ?_ ?_
      | refine LeO.bind ?_ (fun _ => ?_)
    · intro y0 y1 y2 y3 y4
      unfold racewayref15_Same.l0
      repeat' first
      | (with_reducible exact ih0 _ _ _ _ _)
      | (with_reducible exact ih1 _ _ _ _ _)
      | (with_reducible exact LeO.refl _)
      | (with_reducible exact LeO.none _)
      | (with_reducible refine LeO.ite ?_ ?_)
      | (with_reducible refine LeO.bind ?_ (fun _ => ?_))
      | exact ih0 _ _ _ _ _
      | exact ih1 _ _ _ _ _
      | exact LeO.none _
      | refine LeO.ite ?_ ?_
      | refine LeO.bind ?_ (fun _ => ?_)
theorem racewayref15_Same.mono : ∀ a0 a1 a2 a3 k, LeO (racewayref15_Same.f k a0 a1 a2 a3) (racewayref15_Same.f (k + 1) a0 a1 a2 a3) := by
  intro a0 a1 a2 a3 k
  obtain ⟨ih0, ih1⟩ := racewayref15_Same.mono_l k
  unfold racewayref15_Same.f
  repeat' first
      | (with_reducible exact ih0 _ _ _ _ _)
      | (with_reducible exact ih1 _ _ _ _ _)
      | (with_reducible exact LeO.refl _)
      | (with_reducible exact LeO.none _)
      | (with_reducible refine LeO.ite ?_ ?_)
      | (with_reducible refine LeO.bind ?_ (fun _ => ?_))
      | exact ih0 _ _ _ _ _
      | exact ih1 _ _ _ _ _
      | exact LeO.none _
      | refine LeO.ite ?_ ?_
      | refine LeO.bind ?_ (fun _ => ?_)
end Go.Proofs.Yteppmdafdopehaa.P
