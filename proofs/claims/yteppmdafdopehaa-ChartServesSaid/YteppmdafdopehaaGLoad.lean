/- chart.Load, by hand, in the print's own form: numbers read one behind the other by an inner function. No conditions. -/
import Derived.Test.YteppmdafdopehaaP6
import Derived.Test.YteppmdafdopehaaP20
import Derived.Deep.LoopGhost
namespace Go.Proofs.Yteppmdafdopehaa.P
open Go.RowKit Go.Proofs.YteppmdafdopehaaW.PrintWords Go.Proofs.YteppmdafdopehaaW.PrintLast Go.Proofs.YteppmdafdopehaaW.PrintMore
set_option linter.unusedVariables false
set_option linter.unusedSimpArgs false
section
variable {P : Program} {ops : Array Oper} {Q : Exit → Act → World → Prop}
end
def ldNum (k : Nat) (l : List Int) (g : Bool) : Option (Int × List Int × Bool) := (octet_ReadNum.f k l).bind fun t => if 0 ≤ t.2.1 ∧ t.2.1 ≤ (l.length : Int) then some (t.1, l.drop t.2.1.toNat, g && (t.2.2 == 0)) else none
theorem ldNum_mono (k : Nat) (l : List Int) (g : Bool) : LeO (ldNum k l g) (ldNum (k + 1) l g) := LeO.bind (octet_ReadNum.mono _ k) (fun _ => LeO.refl _)
def chart_Load.l0 : Nat → Int → List Int → Bool → List S43 → Option (List Int × Bool × List S43)
  | 0, _, _, _, _ => none
  | k + 1, n, l, g, acc => if n > 0 then (if g = true then (if acc.length ≤ 1000000 ∧ n ≤ 4611686018427387904 then (ldNum k l g).bind fun a => (ldNum k a.2.1 a.2.2).bind fun b => (ldNum k b.2.1 b.2.2).bind fun c => chart_Load.l0 k (n - 1) c.2.1 c.2.2 (acc ++ [⟨⟨a.1, b.1⟩, c.1⟩]) else none) else some (l, g, acc)) else some (l, g, acc)
theorem chart_Load.mono_l : ∀ k n l g acc, LeO (chart_Load.l0 k n l g acc) (chart_Load.l0 (k + 1) n l g acc)
  | 0, _, _, _, _ => fun r h => by simp [chart_Load.l0] at h
  | k + 1, n, l, g, acc => by
    simp only [chart_Load.l0]
    exact LeO.ite (LeO.ite (LeO.ite (LeO.bind (ldNum_mono k _ _) (fun a => LeO.bind (ldNum_mono k _ _) (fun b => LeO.bind (ldNum_mono k _ _) (fun c => chart_Load.mono_l k _ _ _ _)))) (LeO.refl _)) (LeO.refl _)) (LeO.refl _)
def chart_Load.f (k : Nat) (a0 : ByteArray) : Option (Int × List S43 × Int) := if a0.size ≤ 140737488355328 then (ldNum k (bytesOf a0) true).bind fun a => (ldNum k a.2.1 a.2.2).bind fun b => (chart_Load.l0 k b.1 b.2.1 b.2.2 []).bind fun c => if c.2.1 = true ∧ c.1.length = 0 then ((chart_May.f k a.1 c.2.2).bind fun t => if t = true then some (a.1, c.2.2, 0) else some (0, [], 5)) else some (0, [], 5) else none
theorem chart_Load.mono : ∀ a0 k, LeO (chart_Load.f k a0) (chart_Load.f (k + 1) a0) := by
  intro a0 k
  unfold chart_Load.f
  exact LeO.ite (LeO.bind (ldNum_mono k _ _) (fun a => LeO.bind (ldNum_mono k _ _) (fun b => LeO.bind (chart_Load.mono_l k _ _ _ _) (fun c => LeO.ite (LeO.bind (chart_May.mono _ _ k) (fun t => LeO.refl _)) (LeO.refl _))))) (LeO.refl _)
/-- The reader's two variables: what is left to be read (it lies below them), and whether all was good. -/
def Eye (w : World) (Bb Bg : Nat) (l : List Int) (g : Bool) : Prop :=
  ∃ (A : Option Addr) (c : Nat), w.heap[Bb]? = some (.cells #[.slice A l.length c] 61 (0, 0)) ∧ w.heap[Bg]? = some (.cells #[.bool g] 4 (0, 0)) ∧ (∀ W, Kept w W (fun k => Bb ≤ k) → Kd.C (Kd.int .u8) W A l.length l) ∧ l.length ≤ c ∧ Bb < Bg
theorem Eye.kept {w w' : World} {Bb Bg : Nat} {l : List Int} {g : Bool} (h : Eye w Bb Bg l g) (hk : Kept w w' (fun k => Bg < k)) : Eye w' Bb Bg l g := by
  obtain ⟨A, c, h1, h2, h3, h4, h5⟩ := h
  exact ⟨A, c, (hk.2 Bb (blk_lt h1) (by omega)).trans h1, (hk.2 Bg (blk_lt h2) (by omega)).trans h2, fun W hW => h3 W ((hk.mono (fun k hk => by omega)).then_ hW (fun k hk => Or.inl hk)), h4, h5⟩
theorem Eye.below {w w' : World} {Bb Bg : Nat} {l : List Int} {g : Bool} (h : Eye w Bb Bg l g) (hb : Below w.heap.size w w') : Eye w' Bb Bg l g := h.kept (Kept.of_below hb _)
end Go.Proofs.Yteppmdafdopehaa.P
