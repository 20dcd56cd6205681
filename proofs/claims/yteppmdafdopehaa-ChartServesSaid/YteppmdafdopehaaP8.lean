-- Cut down by the session's own program (wip/tools/prune.py) to what this claim uses; before that: written or printed by the session's programs.
import Derived.Test.YteppmdafdopehaaP0
namespace Go.Proofs.Yteppmdafdopehaa.P
open Go.RowKit Go.Proofs.YteppmdafdopehaaW.PrintWords Go.Proofs.YteppmdafdopehaaW.PrintLast Go.Proofs.YteppmdafdopehaaW.PrintMore
attribute [local go_sem] max2_int min2_int max_two min_two max_three min_three max_four min_four   -- for this text's walks alone
set_option linter.unusedVariables false
set_option linter.unusedSimpArgs false
mutual
def racewayref15_May.j0 : Nat → Bool → Int → List (S43) → Option (Bool)
  | 0, _, _, _ => none
  | k + 1, x13, x155000, x155001 => if x13 = true then (some false) else (racewayref15_May.l0 k 0 0 x155000 x155001)
def racewayref15_May.l0 : Nat → Int → Int → Int → List (S43) → Option (Bool)
  | 0, _, _, _, _ => none
  | k + 1, x3, x4, x155000, x155001 => if x4 < (x155001.length : Int) then (if 0 ≤ x4 then (if ((rd_T43 x155001 x4).f0.f0) = x3 then (if ((rd_T43 x155001 x4).f0.f1) ≤ x3 then (some false) else (if ((rd_T43 x155001 x4).f0.f1) > 65536 then (some false) else (if ((rd_T43 x155001 x4).f1) < 1 then (some false) else (if ((rd_T43 x155001 x4).f1) > 6 then (some false) else (if x4 > 0 then (if 0 ≤ (wrap64 (x4 - 1)) then (if (wrap64 (x4 - 1)) < (x155001.length : Int) then (if ((rd_T43 x155001 x4).f1) = ((rd_T43 x155001 (wrap64 (x4 - 1))).f1) then (some false) else (racewayref15_May.l0 k ((rd_T43 x155001 x4).f0.f1) (wrap64 (x4 + 1)) x155000 x155001)) else (none)) else (none)) else (racewayref15_May.l0 k ((rd_T43 x155001 x4).f0.f1) (wrap64 (x4 + 1)) x155000 x155001)))))) else (some false)) else (none)) else (some (x3 == 65536))
end
def racewayref15_May.f (k : Nat) (a0_0 : Int) (l0_1 : List (S43)) : Option (Bool) := if a0_0 < 1 then (racewayref15_May.j0 k true a0_0 l0_1) else (racewayref15_May.j0 k (decide (a0_0 > 1099511627776)) a0_0 l0_1)
theorem racewayref15_May.mono_l : ∀ k, (∀ y0 y1 y2, LeO (racewayref15_May.j0 k y0 y1 y2) (racewayref15_May.j0 (k + 1) y0 y1 y2)) ∧ (∀ y0 y1 y2 y3, LeO (racewayref15_May.l0 k y0 y1 y2 y3) (racewayref15_May.l0 (k + 1) y0 y1 y2 y3))
  | 0 => ⟨fun _ _ _ r h => by simp [racewayref15_May.j0] at h, fun _ _ _ _ r h => by simp [racewayref15_May.l0] at h⟩
  | k + 1 => by
    obtain ⟨ih0, ih1⟩ := racewayref15_May.mono_l k
    refine ⟨?_, ?_⟩
    · intro y0 y1 y2
      unfold racewayref15_May.j0
      repeat' first
      | (with_reducible exact ih0 _ _ _)
      | (with_reducible exact ih1 _ _ _ _)
      | (with_reducible exact LeO.refl _)
      | (with_reducible exact LeO.none _)
      | (with_reducible refine LeO.ite ?_ ?_)
      | (with_reducible refine LeO.bind ?_ (fun _ => ?_))
      | exact ih0 _ _ _
      | exact ih1 _ _ _ _
      | exact LeO.none _
      | refine LeO.ite ?_ ?_
      | refine LeO.bind ?_ (fun _ => ?_)
    · intro y0 y1 y2 y3
      unfold racewayref15_May.l0
      repeat' first
      | (with_reducible exact ih0 _ _ _)
      | (with_reducible exact ih1 _ _ _ _)
      | (with_reducible exact LeO.refl _)
      | (with_reducible exact LeO.none _)
      | (with_reducible refine LeO.ite ?_ ?_)
      | (with_reducible refine LeO.bind ?_ (fun _ => ?_))
      | exact ih0 _ _ _
      | exact ih1 _ _ _ _
      | exact LeO.none _
      | refine LeO.ite ?_ ?_
      | refine LeO.bind ?_ (fun _ => ?_)
theorem racewayref15_May.mono : ∀ a0 a1 k, LeO (racewayref15_May.f k a0 a1) (racewayref15_May.f (k + 1) a0 a1) := by
  intro a0 a1 k
  obtain ⟨ih0, ih1⟩ := racewayref15_May.mono_l k
  unfold racewayref15_May.f
  repeat' first
      | (with_reducible exact ih0 _ _ _)
      | (with_reducible exact ih1 _ _ _ _)
      | (with_reducible exact LeO.refl _)
      | (with_reducible exact LeO.none _)
      | (with_reducible refine LeO.ite ?_ ?_)
      | (with_reducible refine LeO.bind ?_ (fun _ => ?_))
      | exact ih0 _ _ _
      | exact ih1 _ _ _ _
      | exact LeO.none _
      | refine LeO.ite ?_ ?_
      | refine LeO.bind ?_ (fun _ => ?_)
end Go.Proofs.Yteppmdafdopehaa.P
