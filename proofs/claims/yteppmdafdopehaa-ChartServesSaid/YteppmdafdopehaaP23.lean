-- Cut down by the session's own program (wip/tools/prune.py) to what this claim uses; before that: written or printed by the session's programs.
import Derived.Test.YteppmdafdopehaaP0
import Derived.Test.YteppmdafdopehaaP8
import Derived.Test.YteppmdafdopehaaP22
namespace Go.Proofs.Yteppmdafdopehaa.P
open Go.RowKit Go.Proofs.YteppmdafdopehaaW.PrintWords Go.Proofs.YteppmdafdopehaaW.PrintLast Go.Proofs.YteppmdafdopehaaW.PrintMore
attribute [local go_sem] max2_int min2_int max_two min_two max_three min_three max_four min_four   -- for this text's walks alone
set_option linter.unusedVariables false
set_option linter.unusedSimpArgs false
def racewayref15_Dump.l0 : Nat → List Int → Int → Int → List (S43) → Option (ByteArray × Int)
  | 0, _, _, _, _ => none
  | k + 1, x4, x6, x329000, x329001 => if x6 < (x329001.length : Int) then (if 0 ≤ x6 then ((racewayref01_Num.f k x4 ((rd_T43 x329001 x6).f0.f0)).bind fun bt339 => ((racewayref01_Num.f k bt339.1 ((rd_T43 x329001 x6).f0.f1)).bind fun bt344 => ((racewayref01_Num.f k bt344.1 ((rd_T43 x329001 x6).f1)).bind fun bt349 => (racewayref15_Dump.l0 k bt349.1 (wrap64 (x6 + 1)) x329000 x329001)))) else (none)) else (some (strOfNums x4, 0))
def racewayref15_Dump.f (k : Nat) (a0_0 : Int) (l0_1 : List (S43)) : Option (ByteArray × Int) := (racewayref15_May.f k a0_0 l0_1).bind fun t329 => (if t329 = true then ((racewayref01_Num.f k ([] : List Int) a0_0).bind fun bt330 => ((racewayref01_Num.f k bt330.1 (l0_1.length : Int)).bind fun bt334 => (racewayref15_Dump.l0 k bt334.1 0 a0_0 l0_1))) else (some ((⟨#[]⟩ : ByteArray), 2)))
theorem racewayref15_Dump.mono_l : ∀ k, (∀ y0 y1 y2 y3, LeO (racewayref15_Dump.l0 k y0 y1 y2 y3) (racewayref15_Dump.l0 (k + 1) y0 y1 y2 y3))
  | 0 => fun _ _ _ _ r h => by simp [racewayref15_Dump.l0] at h
  | k + 1 => by
    have ih0 := racewayref15_Dump.mono_l k
    · intro y0 y1 y2 y3
      unfold racewayref15_Dump.l0
      repeat' first
      | (with_reducible exact ih0 _ _ _ _)
      | (with_reducible exact racewayref01_Num.mono _ _ _)
      | (with_reducible exact racewayref15_May.mono _ _ _)
      | (with_reducible exact LeO.refl _)
      | (with_reducible exact LeO.none _)
      | (with_reducible refine LeO.ite ?_ ?_)
      | (with_reducible refine LeO.bind ?_ (fun _ => ?_))
      | exact ih0 _ _ _ _
      | exact racewayref01_Num.mono _ _ _
      | exact racewayref15_May.mono _ _ _
      | exact LeO.none _
      | refine LeO.ite ?_ ?_
      | refine LeO.bind ?_ (fun _ => ?_)
theorem racewayref15_Dump.mono : ∀ a0 a1 k, LeO (racewayref15_Dump.f k a0 a1) (racewayref15_Dump.f (k + 1) a0 a1) := by
  intro a0 a1 k
  have ih0 := racewayref15_Dump.mono_l k
  unfold racewayref15_Dump.f
  repeat' first
      | (with_reducible exact ih0 _ _ _ _)
      | (with_reducible exact racewayref01_Num.mono _ _ _)
      | (with_reducible exact racewayref15_May.mono _ _ _)
      | (with_reducible exact LeO.refl _)
      | (with_reducible exact LeO.none _)
      | (with_reducible refine LeO.ite ?_ ?_)
      | (with_reducible refine LeO.bind ?_ (fun _ => ?_))
      | exact ih0 _ _ _ _
      | exact racewayref01_Num.mono _ _ _
      | exact racewayref15_May.mono _ _ _
      | exact LeO.none _
      | refine LeO.ite ?_ ?_
      | refine LeO.bind ?_ (fun _ => ?_)
end Go.Proofs.Yteppmdafdopehaa.P
