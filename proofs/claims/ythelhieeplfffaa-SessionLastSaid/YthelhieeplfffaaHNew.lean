/- session.New and session.Last over tables whose replies have rows, by hand. No conditions. -/
import Derived.Test.YthelhieeplfffaaHLookR
namespace Go.Proofs.Ythelhieeplfffaa.P
open Go.RowKit Go.Maps Go.Proofs.YthelhieeplfffaaW.PrintWords Go.Proofs.YthelhieeplfffaaW.PrintLast Go.Proofs.YthelhieeplfffaaW.PrintMore
set_option linter.unusedVariables false
set_option linter.unusedSimpArgs false

set_option maxHeartbeats 2000000 in
theorem newR (w : World) : Calls Try.prog 6 #[] w fun e w' => ∃ B b, e = .returned (.pointer (some ⟨B, 0, none⟩)) ∧ w.heap.size ≤ B ∧ w.heap.size ≤ b ∧ (∀ S, TabR S w' B b 0 []) ∧ Below w.heap.size w w' := by
  have hmm := @run_makeMap Try.prog
  go_enter Try.func6, Try.ntmps6
  go_wp2
  go_ret
  have h1 := World.ownsMap_made w Try.prog 3 RH
  have h2 := heap_alloc_new (w.alloc (.map #[] 0)) (.cells #[.map (some w.heap.size)] 48)
  exact ⟨w.heap.size + 1, w.heap.size, rfl, Nat.le_succ _, Nat.le_refl _, fun S => ⟨by simpa using h2, .map [], owns_below h1 (below_alloc (Below.refl _ _) _), RelG.start⟩, below_alloc (below_alloc (Below.refl _ _) _) _⟩
set_option maxHeartbeats 2000000 in
set_option maxRecDepth 100000 in
theorem lastR (S : Nat → Prop) (w : World) (B b q : Nat) (M : List (Int × (Int × Rp))) (h : TabR S w B b q M) (c : Int) (hc : 1 ≤ c ∧ c ≤ 1099511627776) (y : Int × Rp) (hin : (c, y) ∈ M) :
    Calls Try.prog 11 #[.pointer (some ⟨B, 0, none⟩), .int .i64 c] w fun e' w' => e' = .returned (.int .i64 y.1) ∧ w' = w := by
  obtain ⟨hb, D, hown, hrel⟩ := h
  have HO := Aside0.mk hown
  have HB := Aside0.mk hb
  have HK := Aside0.mk (keyOf_int_mk (P := Try.prog) (k := 3) Try.underlying3 (show (Lit.int .i64 c).wf = true by simp [Lit.wf]; simp [IntKind.min, IntKind.bits]; omega))
  have hcell : w.cell? ⟨B, 0, none⟩ = some (.map (some b)) := (blk_cell hb 0).trans rfl
  obtain ⟨vy, hvy, gy0, dy0, ay0, rfl, ⟨⟨gA, gc, rfl, gl, gk⟩, ⟨dA, dc, rfl, dl, dk⟩, ⟨aA, ac, rfl, al, ak⟩⟩, hyf⟩ := hrel.vals _ hin
  unfold lasV at hvy
  have HAT := Aside0.mk hvy
  clear hvy hyf gl gk dl dk al ak hb hown hrel hin hc
  have hq := fun (W : World) => (show Sem.run Try.prog (Instr.field 59 (.agg #[.int .i64 y.1, .int .i64 y.2.e, .int .i64 y.2.s, .int .i64 y.2.n, .slice gA y.2.got.length gc, .slice dA y.2.data.length dc, .slice aA y.2.about.length ac]) 0) W = .ok (.int .i64 y.1) W by kernel_rfl)
  go_enter Try.func11, Try.ntmps11
  go_wp2_with (first
    | (go_at_call 18; (with_reducible refine (noneC _ B b HB.out).mono ?_); rintro e1 w1 ⟨rfl, rfl⟩)
    | (at_lookup; refine look_held _ rfl _ _ 46 rfl 3 59 law3 Try.underlying46 zeroV (zero59 _) b q D rfl HO.out _ (.int .i64 c) rfl HK.out (.agg #[.int .i64 y.1, .int .i64 y.2.e, .int .i64 y.2.s, .int .i64 y.2.n, .slice gA y.2.got.length gc, .slice dA y.2.data.length dc, .slice aA y.2.about.length ac]) HAT.out ?_))
  go_ret
  exact ⟨rfl, rfl⟩
end Go.Proofs.Ythelhieeplfffaa.P
