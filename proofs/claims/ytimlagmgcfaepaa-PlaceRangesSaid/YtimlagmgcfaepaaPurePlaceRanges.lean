/- Any range may be, has a place, is parted, and meets another one, as the document says (P4.1, P4.2): the plain statement of PlaceRanges. No conditions. -/
import Derived.Test.YtimlagmgcfaepaaStmPlaceRanges
import Derived.Test.YtimlagmgcfaepaaPWorks04
namespace Go.Proofs.Ytimlagmgcfaepaa.Pure
open Go.RowKit Go.Proofs.Ytimlagmgcfaepaa.P Go.Proofs.YtimlagmgcfaepaaW.PrintWords Go.Proofs.YtimlagmgcfaepaaW.PrintLast
set_option linter.unusedVariables false

theorem mayH_f (a b : Int) : place_May.f a b = some (decide (MayH a b)) := by
  unfold place_May.f MayH
  by_cases h1 : a ≥ 0 <;> by_cases h2 : a < b <;> by_cases h3 : b ≤ 65536 <;> simp [h1, h2, h3] <;> omega
theorem rmayH_f (a b : Int) : racewayref04_May.f a b = some (decide (MayH a b)) := by
  unfold racewayref04_May.f MayH
  by_cases h1 : 0 ≤ a <;> by_cases h2 : a < b <;> by_cases h3 : b ≤ 65536 <;> simp [h1, h2, h3]
def inH (a b p : Int) : Bool := decide (MayH a b ∧ a ≤ p ∧ p < b)
theorem inH_f (a b p : Int) : place_In.f a b p = some (inH a b p) := by
  unfold place_In.f inH
  rw [mayH_f]
  by_cases h1 : MayH a b <;> by_cases h2 : p ≥ a <;> by_cases h3 : p < b <;> simp [h1, h2, h3] <;> omega
theorem rinH_f (a b p : Int) : racewayref04_In.f a b p = some (inH a b p) := by
  unfold racewayref04_In.f inH
  rw [rmayH_f]
  by_cases h1 : MayH a b <;> by_cases h2 : a ≤ p <;> by_cases h3 : p < b <;> simp [h1, h2, h3]
theorem meetH_f (a b c d : Int) : place_Meet.f a b c d = some (meetH a b c d) := by
  unfold place_Meet.f meetH
  rw [mayH_f, mayH_f, mayH_f]
  by_cases h1 : MayH a b <;> by_cases h2 : MayH c d <;> by_cases h3 : MayH (mx a c) (mn b d) <;> simp [h1, h2, h3]
def splitH (a b t : Int) : Int × Int × Int × Int × Int := if MayH a b ∧ a < t ∧ t < b then (a, t, t, b, 0) else (0, 0, 0, 0, 2)
theorem splitH_f (a b t : Int) : place_Split.f a b t = some (splitH a b t) := by
  unfold place_Split.f splitH
  rw [mayH_f]
  by_cases h1 : MayH a b <;> by_cases h2 : t ≤ a <;> by_cases h3 : t ≥ b <;> simp [h1, h2, h3] <;> omega
theorem rsplitH_f (a b t : Int) : racewayref04_Split.f a b t = some (splitH a b t) := by
  unfold racewayref04_Split.f splitH
  rw [rmayH_f]
  by_cases h1 : MayH a b <;> by_cases h2 : a < t <;> by_cases h3 : t < b <;> simp [h1, h2, h3]
theorem PlaceRanges : racewaylaw04_PlaceRanges.Pure := by
  intro a b c d t _ _ _ _ _
  obtain ⟨k, hk⟩ := Ev.rounds works_ev
  refine ⟨k, ?_⟩
  unfold racewaylaw04_PlaceRanges.f racewayref04_Meet.f
  rw [splitH_f, rsplitH_f, mayH_f, rmayH_f, inH_f, rinH_f, meetH_f, hk]
  simp
end Go.Proofs.Ytimlagmgcfaepaa.Pure
