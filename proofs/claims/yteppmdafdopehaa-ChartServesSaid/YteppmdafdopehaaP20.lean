-- Cut down by the session's own program (wip/tools/prune.py) to what this claim uses; before that: written or printed by the session's programs.
import Derived.Test.YteppmdafdopehaaP0
namespace Go.Proofs.Yteppmdafdopehaa.P
open Go.RowKit Go.Proofs.YteppmdafdopehaaW.PrintWords Go.Proofs.YteppmdafdopehaaW.PrintLast Go.Proofs.YteppmdafdopehaaW.PrintMore
attribute [local go_sem] max2_int min2_int max_two min_two max_three min_three max_four min_four   -- for this text's walks alone
set_option linter.unusedVariables false
set_option linter.unusedSimpArgs false
mutual
def octet_ReadNum.l0 : Nat → Int → List Int → Int → Int → Option (Int × Int × Int)
  | 0, _, _, _, _ => none
  | k + 1, x2, x7, x8, x9 => if x9 < x8 then (if 0 ≤ x9 then (if x9 < (x7.length : Int) then (if x9 = 9 then (octet_ReadNum.j1 k x2 x9 (rd x7 x9) x7 x8 x9 true) else (if (rd x7 x9) = 0 then (octet_ReadNum.j1 k x2 x9 (rd x7 x9) x7 x8 x9 (decide (x9 > 0))) else (octet_ReadNum.j1 k x2 x9 (rd x7 x9) x7 x8 x9 false))) else (none)) else (none)) else (some (0, 0, 4))
def octet_ReadNum.j1 : Nat → Int → Int → Int → List Int → Int → Int → Bool → Option (Int × Int × Int)
  | 0, _, _, _, _, _, _, _ => none
  | k + 1, x2, x5, x6, x7, x8, x9, x23 => if x23 = true then (some (0, 0, 5)) else (if 0 ≤ (wrap64 (7 * x5)) then (if (Go.bits .or .i64 x2 (shl .i64 (wrap64 (Go.bits .and .u8 x6 127)) (wrap64 (7 * x5)))) > 4611686018427387904 then (octet_ReadNum.j2 k (Go.bits .or .i64 x2 (shl .i64 (wrap64 (Go.bits .and .u8 x6 127)) (wrap64 (7 * x5)))) x5 x6 x7 x8 x9 true) else (octet_ReadNum.j2 k (Go.bits .or .i64 x2 (shl .i64 (wrap64 (Go.bits .and .u8 x6 127)) (wrap64 (7 * x5)))) x5 x6 x7 x8 x9 (decide ((Go.bits .or .i64 x2 (shl .i64 (wrap64 (Go.bits .and .u8 x6 127)) (wrap64 (7 * x5)))) < 0)))) else (none))
def octet_ReadNum.j2 : Nat → Int → Int → Int → List Int → Int → Int → Bool → Option (Int × Int × Int)
  | 0, _, _, _, _, _, _, _ => none
  | k + 1, x2, x5, x6, x7, x8, x9, x37 => if x37 = true then (some (0, 0, 5)) else (if x6 < 128 then (some (x2, wrap64 (x5 + 1), 0)) else (octet_ReadNum.l0 k x2 x7 x8 (wrap64 (x9 + 1))))
end
def octet_ReadNum.f (k : Nat) (l0 : List Int) : Option (Int × Int × Int) := octet_ReadNum.l0 k 0 l0 (l0.length : Int) 0
theorem octet_ReadNum.mono_l : ∀ k, (∀ y0 y1 y2 y3, LeO (octet_ReadNum.l0 k y0 y1 y2 y3) (octet_ReadNum.l0 (k + 1) y0 y1 y2 y3)) ∧ (∀ y0 y1 y2 y3 y4 y5 y6, LeO (octet_ReadNum.j1 k y0 y1 y2 y3 y4 y5 y6) (octet_ReadNum.j1 (k + 1) y0 y1 y2 y3 y4 y5 y6)) ∧ (∀ y0 y1 y2 y3 y4 y5 y6, LeO (octet_ReadNum.j2 k y0 y1 y2 y3 y4 y5 y6) (octet_ReadNum.j2 (k + 1) y0 y1 y2 y3 y4 y5 y6))
  | 0 => ⟨fun _ _ _ _ r h => by simp [octet_ReadNum.l0] at h, fun _ _ _ _ _ _ _ r h => by simp [octet_ReadNum.j1] at h, fun _ _ _ _ _ _ _ r h => by simp [octet_ReadNum.j2] at h⟩
  | k + 1 => by
    obtain ⟨ih0, ih1, ih2⟩ := octet_ReadNum.mono_l k
    refine ⟨?_, ?_, ?_⟩
    · intro y0 y1 y2 y3
      unfold octet_ReadNum.l0
      repeat' first
      | (with_reducible exact ih0 _ _ _ _)
      | (with_reducible exact ih1 _ _ _ _ _ _ _)
      | (with_reducible exact ih2 _ _ _ _ _ _ _)
      | (with_reducible exact LeO.refl _)
      | (with_reducible exact LeO.none _)
      | (with_reducible refine LeO.ite ?_ ?_)
      | (with_reducible refine LeO.bind ?_ (fun _ => ?_))
      | exact ih0 _ _ _ _
      | exact ih1 _ _ _ _ _ _ _
      | exact ih2 _ _ _ _ _ _ _
      | exact LeO.none _
      | refine LeO.ite ?_ ?_
      | refine LeO.bind ?_ (fun _ => ?_)
    · intro y0 y1 y2 y3 y4 y5 y6
      unfold octet_ReadNum.j1
      repeat' first
      | (with_reducible exact ih0 _ _ _ _)
      | (with_reducible exact ih1 _ _ _ _ _ _ _)
      | (with_reducible exact ih2 _ _ _ _ _ _ _)
      | (with_reducible exact LeO.refl _)
      | (with_reducible exact LeO.none _)
      | (with_reducible refine LeO.ite ?_ ?_)
      | (with_reducible refine LeO.bind ?_ (fun _ => ?_))
      | exact ih0 _ _ _ _
      | exact ih1 _ _ _ _ _ _ _
      | exact ih2 _ _ _ _ _ _ _
      | exact LeO.none _
      | refine LeO.ite ?_ ?_
      | refine LeO.bind ?_ (fun _ => ?_)
    · intro y0 y1 y2 y3 y4 y5 y6
      unfold octet_ReadNum.j2
      repeat' first
      | (with_reducible exact ih0 _ _ _ _)
      | (with_reducible exact ih1 _ _ _ _ _ _ _)
      | (with_reducible exact ih2 _ _ _ _ _ _ _)
      | (with_reducible exact LeO.refl _)
      | (with_reducible exact LeO.none _)
      | (with_reducible refine LeO.ite ?_ ?_)
      | (with_reducible refine LeO.bind ?_ (fun _ => ?_))
      | exact ih0 _ _ _ _
      | exact ih1 _ _ _ _ _ _ _
      | exact ih2 _ _ _ _ _ _ _
      | exact LeO.none _
      | refine LeO.ite ?_ ?_
      | refine LeO.bind ?_ (fun _ => ?_)
theorem octet_ReadNum.mono : ∀ a0 k, LeO (octet_ReadNum.f k a0) (octet_ReadNum.f (k + 1) a0) := by
  intro a0 k
  obtain ⟨ih0, ih1, ih2⟩ := octet_ReadNum.mono_l k
  unfold octet_ReadNum.f
  repeat' first
      | (with_reducible exact ih0 _ _ _ _)
      | (with_reducible exact ih1 _ _ _ _ _ _ _)
      | (with_reducible exact ih2 _ _ _ _ _ _ _)
      | (with_reducible exact LeO.refl _)
      | (with_reducible exact LeO.none _)
      | (with_reducible refine LeO.ite ?_ ?_)
      | (with_reducible refine LeO.bind ?_ (fun _ => ?_))
      | exact ih0 _ _ _ _
      | exact ih1 _ _ _ _ _ _ _
      | exact ih2 _ _ _ _ _ _ _
      | exact LeO.none _
      | refine LeO.ite ?_ ?_
      | refine LeO.bind ?_ (fun _ => ?_)
end Go.Proofs.Yteppmdafdopehaa.P
