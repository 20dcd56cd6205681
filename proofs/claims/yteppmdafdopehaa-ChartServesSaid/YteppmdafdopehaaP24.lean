-- Cut down by the session's own program (wip/tools/prune.py) to what this claim uses; before that: written or printed by the session's programs.
import Derived.Test.YteppmdafdopehaaP0
import Derived.Test.YteppmdafdopehaaP13
import Derived.Test.YteppmdafdopehaaP17
import Derived.Test.YteppmdafdopehaaGLoad
import Derived.Test.YteppmdafdopehaaGRLoad
namespace Go.Proofs.Yteppmdafdopehaa.P
open Go.RowKit Go.Proofs.YteppmdafdopehaaW.PrintWords Go.Proofs.YteppmdafdopehaaW.PrintLast Go.Proofs.YteppmdafdopehaaW.PrintMore
attribute [local go_sem] max2_int min2_int max_two min_two max_three min_three max_four min_four   -- for this text's walks alone
set_option linter.unusedVariables false
set_option linter.unusedSimpArgs false
def racewaylaw15_ChartLoads.f (k : Nat) (a0 : ByteArray) : Option (Bool) := if 0 ≤ (mn (a0.size : Int) 1000) then (if (mn (a0.size : Int) 1000) ≤ (a0.size : Int) then ((chart_Load.f k (a0.extract 0 ((mn (a0.size : Int) 1000) : Int).toNat)).bind fun bt353 => ((racewayref15_Load.f k (a0.extract 0 ((mn (a0.size : Int) 1000) : Int).toNat)).bind fun bt359 => ((racewayref15_Same.f k bt353.1 bt353.2.1 bt359.1 bt359.2.1).bind fun t365 => (if t365 = true then (if bt353.2.2 = bt359.2.2 then ((racewaylaw15_works.f k).bind fun t366 => (some t366)) else (some false)) else (some false))))) else (none)) else (none)
theorem racewaylaw15_ChartLoads.mono : ∀ a0 k, LeO (racewaylaw15_ChartLoads.f k a0) (racewaylaw15_ChartLoads.f (k + 1) a0) := by
  intro a0 k
  unfold racewaylaw15_ChartLoads.f
  repeat' first
      | (with_reducible exact chart_Load.mono _ _)
      | (with_reducible exact racewaylaw15_works.mono _)
      | (with_reducible exact racewayref15_Load.mono _ _)
      | (with_reducible exact racewayref15_Same.mono _ _ _ _ _)
      | (with_reducible exact LeO.refl _)
      | (with_reducible exact LeO.none _)
      | (with_reducible refine LeO.ite ?_ ?_)
      | (with_reducible refine LeO.bind ?_ (fun _ => ?_))
      | exact chart_Load.mono _ _
      | exact racewaylaw15_works.mono _
      | exact racewayref15_Load.mono _ _
      | exact racewayref15_Same.mono _ _ _ _ _
      | exact LeO.none _
      | refine LeO.ite ?_ ?_
      | refine LeO.bind ?_ (fun _ => ?_)
def octet_num.l0 : Nat → List Int → Int → Option (List Int)
  | 0, _, _ => none
  | k + 1, x0, x1 => if x1 ≥ 128 then (if x0.length < 140737488355328 then (octet_num.l0 k (x0 ++ [Go.bits .or .u8 ((x1) % 256) 128]) (x1 / 128)) else (none)) else (if x0.length < 140737488355328 then (some (x0 ++ [(x1) % 256])) else (none))
def octet_num.f (k : Nat) (l0 : List Int) (a1 : Int) : Option (List Int) := octet_num.l0 k l0 a1
theorem octet_num.mono_l : ∀ k, (∀ y0 y1, LeO (octet_num.l0 k y0 y1) (octet_num.l0 (k + 1) y0 y1))
  | 0 => fun _ _ r h => by simp [octet_num.l0] at h
  | k + 1 => by
    have ih0 := octet_num.mono_l k
    · intro y0 y1
      unfold octet_num.l0
      repeat' first
      | (with_reducible exact ih0 _ _)
      | (with_reducible exact LeO.refl _)
      | (with_reducible exact LeO.none _)
      | (with_reducible refine LeO.ite ?_ ?_)
      | (with_reducible refine LeO.bind ?_ (fun _ => ?_))
      | exact ih0 _ _
      | exact LeO.none _
      | refine LeO.ite ?_ ?_
      | refine LeO.bind ?_ (fun _ => ?_)
theorem octet_num.mono : ∀ a0 a1 k, LeO (octet_num.f k a0 a1) (octet_num.f (k + 1) a0 a1) := by
  intro a0 a1 k
  have ih0 := octet_num.mono_l k
  unfold octet_num.f
  repeat' first
      | (with_reducible exact ih0 _ _)
      | (with_reducible exact LeO.refl _)
      | (with_reducible exact LeO.none _)
      | (with_reducible refine LeO.ite ?_ ?_)
      | (with_reducible refine LeO.bind ?_ (fun _ => ?_))
      | exact ih0 _ _
      | exact LeO.none _
      | refine LeO.ite ?_ ?_
      | refine LeO.bind ?_ (fun _ => ?_)
end Go.Proofs.Yteppmdafdopehaa.P
