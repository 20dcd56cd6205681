/- front.Asker, by hand: NewAsker, Turn, Tick. No conditions. -/
import Derived.Test.YtonedijkgddepaaFA
import Derived.Test.YtonedijkgddepaaP23
namespace Go.Proofs.Ytonedijkgddepaa.P
open Go.RowKit Go.Maps Go.Proofs.YtonedijkgddepaaW.PrintWords Go.Proofs.YtonedijkgddepaaW.PrintLast Go.Proofs.YtonedijkgddepaaW.PrintMore
set_option linter.unusedVariables false
set_option linter.unusedSimpArgs false

def newAs (id nodes retry : Int) : As := ⟨id, nodes, retry, 0, 0, z38, false, false, 0, []⟩
def confOk (id nodes retry : Int) : Prop := 1 ≤ id ∧ id ≤ 1099511627776 ∧ 1 ≤ nodes ∧ nodes ≤ 5 ∧ 1 ≤ retry ∧ retry ≤ 1000
instance (id nodes retry : Int) : Decidable (confOk id nodes retry) := by unfold confOk; infer_instance
theorem newAs_ok {id nodes retry : Int} (h : confOk id nodes retry) : (newAs id nodes retry).ok 0 :=
 ⟨⟨h.1, h.2.1⟩, ⟨h.2.2.1, h.2.2.2.1⟩, h.2.2.2.2, ⟨Int.le_refl _, Int.le_refl _⟩, ⟨Int.le_refl _, by show (0 : Int) ≤ 6; omega⟩, ⟨Int.le_refl _, by show (0 : Int) ≤ 1000; omega⟩, fun x hx => (by cases hx), by omega, rfl⟩
set_option maxHeartbeats 4000000 in
set_option maxRecDepth 100000 in
theorem newAskerC (w : World) (id nodes retry : Int) :
  Calls Try.prog 18 #[.int .i64 id, .int .i64 nodes, .int .i64 retry] w fun e' w' => (confOk id nodes retry ∧ ∃ B bl, e' = .returned (.tuple #[.pointer (some ⟨B, 0, none⟩), .int .i64 0]) ∧ w.heap.size ≤ B ∧ w.heap.size ≤ bl ∧ AskAt w' B bl 0 (newAs id nodes retry) ∧ Below w.heap.size w w') ∨ (¬ confOk id nodes retry ∧ e' = .returned (.tuple #[.pointer none, .int .i64 2]) ∧ w' = w) := by
 have hmm := @run_makeMap Try.prog
 by_cases h : confOk id nodes retry
 ·have HC := Aside0.mk h
  obtain ⟨h1, h2, h3, h4, h5, h6⟩ := h
  have f1 : decide (id < 1) = false := decide_eq_false (by omega)
  have f2 : decide (1099511627776 < id) = false := decide_eq_false (by omega)
  have f3 : decide (nodes < 1) = false := decide_eq_false (by omega)
  have f4 : decide (5 < nodes) = false := decide_eq_false (by omega)
  have f5 : decide (retry < 1) = false := decide_eq_false (by omega)
  have f6 : decide (1000 < retry) = false := decide_eq_false (by omega)
  clear h1 h2 h3 h4 h5 h6
  go_enter Try.func18, Try.ntmps18
  go_wp2
  go_ret2
  have g1 := World.ownsMap_made w Try.prog 3 RH
  have g2 : ((w.alloc (.map #[] 0)).alloc (.cells (askA (newAs id nodes retry) w.heap.size) 97)).heap[w.heap.size + 1]? = some (.cells (askA (newAs id nodes retry) w.heap.size) 97 (0, 0)) := blk_at (by simp)
  refine Or.inl ⟨HC.out, w.heap.size + 1, w.heap.size, rfl, Nat.le_succ _, Nat.le_refl _, ⟨g2, .map [], owns_below g1 (below_alloc (Below.refl _ _) _), RelG.start⟩, below_alloc (below_alloc (Below.refl _ _) _) _⟩
 ·have HC := Aside0.mk h
  have f0 : (((((decide (id < 1) || decide (1099511627776 < id)) || decide (nodes < 1)) || decide (5 < nodes)) || decide (retry < 1)) || decide (1000 < retry)) = true := by
   unfold confOk at h
   simp only [Bool.or_eq_true, decide_eq_true_eq]
   omega
  clear h
  go_enter Try.func18, Try.ntmps18
  go_wp2
  all_goals first
   | (go_ret2; exact Or.inr ⟨HC.out, rfl, rfl⟩)
   | skip
def isG (g : Int) : Prop := 0 ≤ g ∧ g ≤ 6
theorem isC (w : World) (g : Int) (h : isG g) : Calls Try.prog 51 #[.int .i64 g] w fun e' w' => e' = .returned (.bool true) ∧ w' = w := by
 obtain ⟨h1, h2⟩ := h
 have f1 : decide (0 ≤ g) = true := decide_eq_true h1
 have f2 : decide (g ≤ 6) = true := decide_eq_true h2
 clear h1 h2
 go_enter Try.func51, Try.ntmps51
 go_wp2
 go_ret
 exact ⟨rfl, rfl⟩
theorem isNotC (w : World) (g : Int) (h : ¬ isG g) : Calls Try.prog 51 #[.int .i64 g] w fun e' w' => e' = .returned (.bool false) ∧ w' = w := by
 by_cases h1 : 0 ≤ g
 ·have f1 : decide (0 ≤ g) = true := decide_eq_true h1
  have f2 : decide (g ≤ 6) = false := decide_eq_false (fun h2 => h ⟨h1, h2⟩)
  clear h1 h
  go_enter Try.func51, Try.ntmps51
  go_wp2
  go_ret
  exact ⟨rfl, rfl⟩
 ·have f1 : decide (0 ≤ g) = false := decide_eq_false h1
  clear h1 h
  go_enter Try.func51, Try.ntmps51
  go_wp2
  go_ret
  exact ⟨rfl, rfl⟩
end Go.Proofs.Ytonedijkgddepaa.P
