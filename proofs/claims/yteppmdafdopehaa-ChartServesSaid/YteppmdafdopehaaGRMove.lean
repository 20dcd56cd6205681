/- racewayref15.Move, by hand, in the print's own form: from bound to bound. No conditions. -/
import Derived.Test.YteppmdafdopehaaP8
import Derived.Test.YteppmdafdopehaaP11
import Derived.Test.YteppmdafdopehaaP12
import Derived.Test.YteppmdafdopehaaGMove
import Derived.Deep.RegionHeld3
import Derived.Deep.DrawnRows
import Derived.IntWalk
namespace Go.Proofs.Yteppmdafdopehaa.P
open Go.RowKit Go.Proofs.YteppmdafdopehaaW.PrintWords Go.Proofs.YteppmdafdopehaaW.PrintLast Go.Proofs.YteppmdafdopehaaW.PrintMore
set_option linter.unusedVariables false
set_option linter.unusedSimpArgs false
attribute [local go_sem ↓] Go.wp_at_zero Go.wp_at_succ
def inQ (x : S26) (p : Int) : Bool := mayB x && (decide (x.f0 ≤ p) && decide (p < x.f1))
def putR (o : List S43) (lo hi s : Int) : List S43 := if 0 < o.length ∧ (lastP o).f1 = s then o.set (o.length - 1) ⟨⟨(lastP o).f0.f0, hi⟩, (lastP o).f1⟩ else o ++ [⟨⟨lo, hi⟩, s⟩]
def isQ (r : S26) (tt x was : Int) : Int := if inQ r x = true then tt else was
def rmGo (k : Nat) (a0 : Int) (l : List S43) (r : S26) (tt : Int) : List Int → List S43 → Bool → Option (List S43 × Bool)
  | x :: y :: bs, o, ch => (racewayref15_Of.f k a0 l x).bind fun was => rmGo k a0 l r tt (y :: bs) (putR o x y (isQ r tt x was)) (ch || (isQ r tt x was != was))
  | _, o, ch => some (o, ch)
theorem rmGo_mono (k : Nat) (a0 : Int) (l : List S43) (r : S26) (tt : Int) : ∀ (b : List Int) (o : List S43) (ch : Bool), LeO (rmGo k a0 l r tt b o ch) (rmGo (k + 1) a0 l r tt b o ch) := by
  intro b
  induction b with
  | nil => intro o ch; exact LeO.refl _
  | cons x b ih =>
    intro o ch
    cases b with
    | nil => exact LeO.refl _
    | cons y bs => exact LeO.bind (racewayref15_Of.mono _ _ _ k) (fun was => ih _ _)
def racewayref15_Move.f (k : Nat) (a0_0 : Int) (l0_1 : List S43) (a1_0 a1_1 a2 : Int) : Option (Int × List S43 × Int) :=
  (racewayref15_May.f k a0_0 l0_1).bind fun t => if t = true ∧ mayB ⟨a1_0, a1_1⟩ = true ∧ 1 ≤ a2 ∧ a2 ≤ 6 then
    (if l0_1.length ≤ 100000 then (racewayref04_Bounds.f k (⟨a1_0, a1_1⟩ :: l0_1.map (·.f0))).bind fun b => (if b.length ≤ 300000 then (rmGo k a0_0 l0_1 ⟨a1_0, a1_1⟩ a2 b [] false).bind fun x => some (moveEnd a0_0 x) else none) else none) else some (0, [], 2)
theorem racewayref15_Move.mono : ∀ a0 a1 a2 a3 a4 k, LeO (racewayref15_Move.f k a0 a1 a2 a3 a4) (racewayref15_Move.f (k + 1) a0 a1 a2 a3 a4) := by
  intro a0 a1 a2 a3 a4 k
  unfold racewayref15_Move.f
  refine LeO.bind (racewayref15_May.mono _ _ k) (fun t => LeO.ite (LeO.ite (LeO.bind (racewayref04_Bounds.mono _ k) (fun b => LeO.ite (LeO.bind (rmGo_mono k _ _ _ _ _ _ _) (fun x => LeO.refl _)) (LeO.refl _))) (LeO.refl _)) (LeO.refl _))
end Go.Proofs.Yteppmdafdopehaa.P
