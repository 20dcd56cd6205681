/- front.Client, by hand: Start. No conditions. -/
import Derived.Test.YtonedijkgddepaaGA
namespace Go.Proofs.Ytonedijkgddepaa.P
open Go.RowKit Go.Maps Go.Proofs.YtonedijkgddepaaW.PrintWords Go.Proofs.YtonedijkgddepaaW.PrintLast Go.Proofs.YtonedijkgddepaaW.PrintMore
set_option linter.unusedVariables false
set_option linter.unusedSimpArgs false
def sweepsB (k : Int) : Bool := (k == 2) || (k == 5)
theorem sweepsC (w : World) (k : Int) : Calls Try.prog 39 #[.int .i64 k] w fun e' w' => e' = .returned (.bool (sweepsB k)) ∧ Below w.heap.size w w' := by
 refine (front_sweeps.calls k (sweepsB k) w ?_).mono fun e w' h => ⟨h.1, h.2.below⟩
 unfold front_sweeps.f sweepsB
 by_cases h : k = 2
 ·rw [if_pos h, h]; rfl
 ·rw [if_neg h, beq_eq_false_iff_ne.2 h]; rfl
def numB (n : Int) : Prop := 0 ≤ n ∧ n ≤ 1099511627776
def callOk (x : Ca) : Prop := (1 ≤ x.kind ∧ x.kind ≤ 6) ∧ (sweepsB x.kind = true → x.entries.length = 0) ∧ (sweepsB x.kind = false → 1 ≤ x.entries.length ∧ x.entries.length ≤ 10) ∧ numB x.queue ∧ numB x.max ∧ numB x.secs
open Classical in
noncomputable def startV (c : Cl) (x : Ca) : Int × Cl := if c.works = true then (17, c) else (if callOk x then (0, { c with call := x, works := true, started := true, step := 0, sweep := [], out := [], wants := (c.epoch == 0) || sweepsB x.kind }) else (2, c))
end Go.Proofs.Ytonedijkgddepaa.P
