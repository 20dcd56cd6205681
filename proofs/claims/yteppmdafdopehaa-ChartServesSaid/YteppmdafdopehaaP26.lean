-- Cut down by the session's own program (wip/tools/prune.py) to what this claim uses; before that: written or printed by the session's programs.
import Derived.Test.YteppmdafdopehaaP0
import Derived.Test.YteppmdafdopehaaP6
import Derived.Test.YteppmdafdopehaaP25
namespace Go.Proofs.Yteppmdafdopehaa.P
open Go.RowKit Go.Proofs.YteppmdafdopehaaW.PrintWords Go.Proofs.YteppmdafdopehaaW.PrintLast Go.Proofs.YteppmdafdopehaaW.PrintMore
attribute [local go_sem] max2_int min2_int max_two min_two max_three min_three max_four min_four   -- for this text's walks alone
set_option linter.unusedVariables false
set_option linter.unusedSimpArgs false
mutual
def chart_Dump.l0 : Nat → List Int → List (S43) → Int → Int → Option (ByteArray × Int)
  | 0, _, _, _, _ => none
  | k + 1, x4, x28, x29, x30 => if x30 < x29 then (if 0 ≤ x30 then (if x30 < (x28.length : Int) then ((some (([(rd_T43 x28 x30).f0.f0, (rd_T43 x28 x30).f0.f1, (rd_T43 x28 x30).f1] : List Int) : List Int)).bind fun y391 => (chart_Dump.l1 k x4 x28 x29 x30 y391 (y391.length : Int) 0)) else (none)) else (none)) else (some (strOfNums x4, 0))
def chart_Dump.l1 : Nat → List Int → List (S43) → Int → Int → List Int → Int → Int → Option (ByteArray × Int)
  | 0, _, _, _, _, _, _, _ => none
  | k + 1, x4, x28, x29, x30, x42, x43, x44 => if x44 < x43 then (if 0 ≤ x44 then (if x44 < (x42.length : Int) then ((octet_Num.f k x4 (rd x42 x44)).bind fun bt395 => (chart_Dump.l1 k bt395.1 x28 x29 x30 x42 x43 (wrap64 (x44 + 1)))) else (none)) else (none)) else (chart_Dump.l0 k x4 x28 x29 (wrap64 (x30 + 1)))
end
def chart_Dump.f (k : Nat) (a0_0 : Int) (l0_1 : List (S43)) : Option (ByteArray × Int) := (chart_May.f k a0_0 l0_1).bind fun t380 => (if t380 = true then ((octet_Num.f k ([] : List Int) a0_0).bind fun bt381 => ((octet_Num.f k bt381.1 (l0_1.length : Int)).bind fun bt385 => (chart_Dump.l0 k bt385.1 l0_1 (l0_1.length : Int) 0))) else (some ((⟨#[]⟩ : ByteArray), 2)))
theorem chart_Dump.mono_l : ∀ k, (∀ y0 y1 y2 y3, LeO (chart_Dump.l0 k y0 y1 y2 y3) (chart_Dump.l0 (k + 1) y0 y1 y2 y3)) ∧ (∀ y0 y1 y2 y3 y4 y5 y6, LeO (chart_Dump.l1 k y0 y1 y2 y3 y4 y5 y6) (chart_Dump.l1 (k + 1) y0 y1 y2 y3 y4 y5 y6))
  | 0 => ⟨fun _ _ _ _ r h => by simp [chart_Dump.l0] at h, fun _ _ _ _ _ _ _ r h => by simp [chart_Dump.l1] at h⟩
  | k + 1 => by
    obtain ⟨ih0, ih1⟩ := chart_Dump.mono_l k
    refine ⟨?_, ?_⟩
    · intro y0 y1 y2 y3
      unfold chart_Dump.l0
      repeat' first
      | (with_reducible exact ih0 _ _ _ _)
      | (with_reducible exact ih1 _ _ _ _ _ _ _)
      | (with_reducible exact chart_May.mono _ _ _)
      | (with_reducible exact octet_Num.mono _ _ _)
      | (with_reducible exact LeO.refl _)
      | (with_reducible exact LeO.none _)
      | (with_reducible refine LeO.ite ?_ ?_)
      | (with_reducible refine LeO.bind ?_ (fun _ => ?_))
      | exact ih0 _ _ _ _
      | exact ih1 _ _ _ _ _ _ _
      | exact chart_May.mono _ _ _
      | exact octet_Num.mono _ _ _
      | exact LeO.none _
      | refine LeO.ite ?_ ?_
      | refine LeO.bind ?_ (fun _ => ?_)
    · intro y0 y1 y2 y3 y4 y5 y6
      unfold chart_Dump.l1
      repeat' first
      | (with_reducible exact ih0 _ _ _ _)
      | (with_reducible exact ih1 _ _ _ _ _ _ _)
      | (with_reducible exact chart_May.mono _ _ _)
      | (with_reducible exact octet_Num.mono _ _ _)
      | (with_reducible exact LeO.refl _)
      | (with_reducible exact LeO.none _)
      | (with_reducible refine LeO.ite ?_ ?_)
      | (with_reducible refine LeO.bind ?_ (fun _ => ?_))
      | exact ih0 _ _ _ _
      | exact ih1 _ _ _ _ _ _ _
      | exact chart_May.mono _ _ _
      | exact octet_Num.mono _ _ _
      | exact LeO.none _
      | refine LeO.ite ?_ ?_
      | refine LeO.bind ?_ (fun _ => ?_)
theorem chart_Dump.mono : ∀ a0 a1 k, LeO (chart_Dump.f k a0 a1) (chart_Dump.f (k + 1) a0 a1) := by
  intro a0 a1 k
  obtain ⟨ih0, ih1⟩ := chart_Dump.mono_l k
  unfold chart_Dump.f
  repeat' first
      | (with_reducible exact ih0 _ _ _ _)
      | (with_reducible exact ih1 _ _ _ _ _ _ _)
      | (with_reducible exact chart_May.mono _ _ _)
      | (with_reducible exact octet_Num.mono _ _ _)
      | (with_reducible exact LeO.refl _)
      | (with_reducible exact LeO.none _)
      | (with_reducible refine LeO.ite ?_ ?_)
      | (with_reducible refine LeO.bind ?_ (fun _ => ?_))
      | exact ih0 _ _ _ _
      | exact ih1 _ _ _ _ _ _ _
      | exact chart_May.mono _ _ _
      | exact octet_Num.mono _ _ _
      | exact LeO.none _
      | refine LeO.ite ?_ ?_
      | refine LeO.bind ?_ (fun _ => ?_)
end Go.Proofs.Yteppmdafdopehaa.P
