-- Cut down by the session's own program (wip/tools/prune.py) to what this claim uses; before that: written or printed by the session's programs.
import Derived.Test.YteppmdafdopehaaP0
namespace Go.Proofs.Yteppmdafdopehaa.P
open Go.RowKit Go.Proofs.YteppmdafdopehaaW.PrintWords Go.Proofs.YteppmdafdopehaaW.PrintLast Go.Proofs.YteppmdafdopehaaW.PrintMore
attribute [local go_sem] max2_int min2_int max_two min_two max_three min_three max_four min_four   -- for this text's walks alone
set_option linter.unusedVariables false
set_option linter.unusedSimpArgs false
mutual
def racewayref01_ReadNum.l0 : Nat → List Int → Int → Int → Int → Option (Int × Int × Int)
  | 0, _, _, _, _ => none
  | k + 1, x0, x5, x6, x7 => if x7 < (x0.length : Int) then (if x7 = 9 then (racewayref01_ReadNum.j1 k x0 x5 x6 x7 true) else (if x7 > 0 then (if 0 ≤ x7 then (racewayref01_ReadNum.j1 k x0 x5 x6 x7 ((rd x0 x7) == 0)) else (none)) else (racewayref01_ReadNum.j1 k x0 x5 x6 x7 false))) else (some (0, 0, 4))
def racewayref01_ReadNum.j1 : Nat → List Int → Int → Int → Int → Bool → Option (Int × Int × Int)
  | 0, _, _, _, _, _ => none
  | k + 1, x0, x5, x6, x7, x27 => if x27 = true then (some (0, 0, 5)) else (if 0 ≤ x7 then (if x7 < (x0.length : Int) then (if (wrap64 (Int.tmod (rd x0 x7) 128)) > 0 then (if x7 = 8 then (if (wrap64 (Int.tmod (rd x0 x7) 128)) > 64 then (racewayref01_ReadNum.j2 k x0 x5 x6 x7 (wrap64 (Int.tmod (rd x0 x7) 128)) true) else (if (wrap64 (Int.tmod (rd x0 x7) 128)) = 64 then (racewayref01_ReadNum.j2 k x0 x5 x6 x7 (wrap64 (Int.tmod (rd x0 x7) 128)) (decide (x5 > 0))) else (racewayref01_ReadNum.j2 k x0 x5 x6 x7 (wrap64 (Int.tmod (rd x0 x7) 128)) false))) else (racewayref01_ReadNum.j2 k x0 x5 x6 x7 (wrap64 (Int.tmod (rd x0 x7) 128)) false)) else (racewayref01_ReadNum.j2 k x0 x5 x6 x7 (wrap64 (Int.tmod (rd x0 x7) 128)) false)) else (none)) else (none))
def racewayref01_ReadNum.j2 : Nat → List Int → Int → Int → Int → Int → Bool → Option (Int × Int × Int)
  | 0, _, _, _, _, _, _ => none
  | k + 1, x0, x5, x6, x7, x8, x55 => if x55 = true then (some (0, 0, 5)) else (if 0 ≤ x7 then (if x7 < (x0.length : Int) then (if (rd x0 x7) < 128 then (some (wrap64 (x5 + (wrap64 (x8 * x6))), wrap64 (x7 + 1), 0)) else (if x7 < 8 then (racewayref01_ReadNum.l0 k x0 (wrap64 (x5 + (wrap64 (x8 * x6)))) (wrap64 (x6 * 128)) (wrap64 (x7 + 1))) else (racewayref01_ReadNum.l0 k x0 (wrap64 (x5 + (wrap64 (x8 * x6)))) x6 (wrap64 (x7 + 1))))) else (none)) else (none))
end
def racewayref01_ReadNum.f (k : Nat) (l0 : List Int) : Option (Int × Int × Int) := racewayref01_ReadNum.l0 k l0 0 1 0
theorem racewayref01_ReadNum.mono_l : ∀ k, (∀ y0 y1 y2 y3, LeO (racewayref01_ReadNum.l0 k y0 y1 y2 y3) (racewayref01_ReadNum.l0 (k + 1) y0 y1 y2 y3)) ∧ (∀ y0 y1 y2 y3 y4, LeO (racewayref01_ReadNum.j1 k y0 y1 y2 y3 y4) (racewayref01_ReadNum.j1 (k + 1) y0 y1 y2 y3 y4)) ∧ (∀ y0 y1 y2 y3 y4 y5, LeO (racewayref01_ReadNum.j2 k y0 y1 y2 y3 y4 y5) (racewayref01_ReadNum.j2 (k + 1) y0 y1 y2 y3 y4 y5))
  | 0 => ⟨fun _ _ _ _ r h => by simp [racewayref01_ReadNum.l0] at h, fun _ _ _ _ _ r h => by simp [racewayref01_ReadNum.j1] at h, fun _ _ _ _ _ _ r h => by simp [racewayref01_ReadNum.j2] at h⟩
  | k + 1 => by
    obtain ⟨ih0, ih1, ih2⟩ := racewayref01_ReadNum.mono_l k
    refine ⟨?_, ?_, ?_⟩
    · intro y0 y1 y2 y3
      unfold racewayref01_ReadNum.l0
      repeat' first
      | (with_reducible exact ih0 _ _ _ _)
      | (with_reducible exact ih1 _ _ _ _ _)
      | (with_reducible exact ih2 _ _ _ _ _ _)
      | (with_reducible exact LeO.refl _)
      | (with_reducible exact LeO.none _)
      | (with_reducible refine LeO.ite ?_ ?_)
      | (with_reducible refine LeO.bind ?_ (fun _ => ?_))
      | exact ih0 _ _ _ _
      | exact ih1 _ _ _ _ _
      | exact ih2 _ _ _ _ _ _
      | exact LeO.none _
      | refine LeO.ite ?_ ?_
      | refine LeO.bind ?_ (fun _ => ?_)
    · intro y0 y1 y2 y3 y4
      unfold racewayref01_ReadNum.j1
      repeat' first
      | (with_reducible exact ih0 _ _ _ _)
      | (with_reducible exact ih1 _ _ _ _ _)
      | (with_reducible exact ih2 _ _ _ _ _ _)
      | (with_reducible exact LeO.refl _)
      | (with_reducible exact LeO.none _)
      | (with_reducible refine LeO.ite ?_ ?_)
      | (with_reducible refine LeO.bind ?_ (fun _ => ?_))
      | exact ih0 _ _ _ _
      | exact ih1 _ _ _ _ _
      | exact ih2 _ _ _ _ _ _
      | exact LeO.none _
      | refine LeO.ite ?_ ?_
      | refine LeO.bind ?_ (fun _ => ?_)
    · intro y0 y1 y2 y3 y4 y5
      unfold racewayref01_ReadNum.j2
      repeat' first
      | (with_reducible exact ih0 _ _ _ _)
      | (with_reducible exact ih1 _ _ _ _ _)
      | (with_reducible exact ih2 _ _ _ _ _ _)
      | (with_reducible exact LeO.refl _)
      | (with_reducible exact LeO.none _)
      | (with_reducible refine LeO.ite ?_ ?_)
      | (with_reducible refine LeO.bind ?_ (fun _ => ?_))
      | exact ih0 _ _ _ _
      | exact ih1 _ _ _ _ _
      | exact ih2 _ _ _ _ _ _
      | exact LeO.none _
      | refine LeO.ite ?_ ?_
      | refine LeO.bind ?_ (fun _ => ?_)
theorem racewayref01_ReadNum.mono : ∀ a0 k, LeO (racewayref01_ReadNum.f k a0) (racewayref01_ReadNum.f (k + 1) a0) := by
  intro a0 k
  obtain ⟨ih0, ih1, ih2⟩ := racewayref01_ReadNum.mono_l k
  unfold racewayref01_ReadNum.f
  repeat' first
      | (with_reducible exact ih0 _ _ _ _)
      | (with_reducible exact ih1 _ _ _ _ _)
      | (with_reducible exact ih2 _ _ _ _ _ _)
      | (with_reducible exact LeO.refl _)
      | (with_reducible exact LeO.none _)
      | (with_reducible refine LeO.ite ?_ ?_)
      | (with_reducible refine LeO.bind ?_ (fun _ => ?_))
      | exact ih0 _ _ _ _
      | exact ih1 _ _ _ _ _
      | exact ih2 _ _ _ _ _ _
      | exact LeO.none _
      | refine LeO.ite ?_ ?_
      | refine LeO.bind ?_ (fun _ => ?_)
end Go.Proofs.Yteppmdafdopehaa.P
