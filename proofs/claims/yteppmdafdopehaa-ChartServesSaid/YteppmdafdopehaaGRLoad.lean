/- racewayref15.Load, by hand, in the print's own form: all numbers are read, then held against their dump. No conditions. -/
import Derived.Test.YteppmdafdopehaaP21
import Derived.Test.YteppmdafdopehaaP23
import Derived.Deep.LoopGhost
import Derived.IntWalk
import Derived.Lib.Strings
namespace Go.Proofs.Yteppmdafdopehaa.P
open Go.RowKit Go.Proofs.YteppmdafdopehaaW.PrintWords Go.Proofs.YteppmdafdopehaaW.PrintLast Go.Proofs.YteppmdafdopehaaW.PrintMore
set_option linter.unusedVariables false
set_option linter.unusedSimpArgs false
def racewayref15_Load.l0 : Nat → List Int → Int → List Int → Option (Option (List Int))
  | 0, _, _, _ => none
  | k + 1, b, x, acc => if x < (b.length : Int) then (if 0 ≤ x then (racewayref01_ReadNum.f k (b.drop x.toNat)).bind fun t => (if t.2.2 = 0 then (if acc.length ≤ 1000000 ∧ 0 ≤ t.2.1 ∧ t.2.1 ≤ 1000 then racewayref15_Load.l0 k b (x + t.2.1) (acc ++ [t.1]) else none) else some none) else none) else some (some acc)
theorem racewayref15_Load.mono_l : ∀ k b x acc, LeO (racewayref15_Load.l0 k b x acc) (racewayref15_Load.l0 (k + 1) b x acc)
  | 0, _, _, _ => fun r h => by simp [racewayref15_Load.l0] at h
  | k + 1, b, x, acc => by
    simp only [racewayref15_Load.l0]
    exact LeO.ite (LeO.ite (LeO.bind (racewayref01_ReadNum.mono _ k) (fun t => LeO.ite (LeO.ite (racewayref15_Load.mono_l k _ _ _) (LeO.refl _)) (LeO.refl _))) (LeO.refl _)) (LeO.refl _)
/-- numbers, three by three -/
def pcs : List Int → List S43
  | a :: b :: c :: r => ⟨⟨a, b⟩, c⟩ :: pcs r
  | _ => []
def racewayref15_Load.f (k : Nat) (a0 : ByteArray) : Option (Int × List S43 × Int) := if a0.size ≤ 1000000000 then (racewayref15_Load.l0 k (bytesOf a0) 0 []).bind fun q => match q with
    | none => some (0, [], 5)
    | some l => if l.length ≤ 1000000 then (if l.length < 2 ∨ (l.length - 2) % 3 ≠ 0 then some (0, [], 5) else (racewayref15_Dump.f k (rd l 0) (pcs (l.drop 2))).bind fun d => if d.2 = 0 ∧ d.1 = a0 then some (rd l 0, pcs (l.drop 2), 0) else some (0, [], 5)) else none
  else none
theorem racewayref15_Load.mono : ∀ a0 k, LeO (racewayref15_Load.f k a0) (racewayref15_Load.f (k + 1) a0) := by
  intro a0 k
  unfold racewayref15_Load.f
  refine LeO.ite (LeO.bind (racewayref15_Load.mono_l k _ _ _) (fun q => ?_)) (LeO.refl _)
  cases q with
  | none => exact LeO.refl _
  | some l => exact LeO.ite (LeO.ite (LeO.refl _) (LeO.bind (racewayref15_Dump.mono _ _ k) (fun d => LeO.refl _))) (LeO.refl _)
end Go.Proofs.Yteppmdafdopehaa.P
