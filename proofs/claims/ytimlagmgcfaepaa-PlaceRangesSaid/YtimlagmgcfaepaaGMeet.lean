/- racewayref04.Meet, by hand, in the print's own form: what two ranges have in common. No conditions. -/
import Derived.Test.YtimlagmgcfaepaaP0
import Derived.Deep.LoopGhost
namespace Go.Proofs.Ytimlagmgcfaepaa.P
open Go.RowKit Go.Proofs.YtimlagmgcfaepaaW.PrintWords Go.Proofs.YtimlagmgcfaepaaW.PrintLast Go.Proofs.YtimlagmgcfaepaaW.PrintMore
set_option linter.unusedVariables false
set_option linter.unusedSimpArgs false

def MayH (a b : Int) : Prop := 0 ≤ a ∧ a < b ∧ b ≤ 65536
instance (a b : Int) : Decidable (MayH a b) := inferInstanceAs (Decidable (_ ∧ _))
def meetH (a b c d : Int) : Int × Int := if MayH a b ∧ MayH c d ∧ MayH (mx a c) (mn b d) then (mx a c, mn b d) else (0, 0)
abbrev boxW (w : World) (a b : Int) : World := w.alloc (.cells #[.int .i64 a, .int .i64 b] 26)
set_option maxHeartbeats 1000000 in
theorem rmayC (a b : Int) (r : Bool) (h : decide (MayH a b) = r) (w : World) : Calls Try.prog 16 #[.agg #[.int .i64 a, .int .i64 b]] w fun e w' => e = .returned (.bool r) ∧ w' = boxW w a b := by
  by_cases h1 : 0 ≤ a
  · have f1 := decide_eq_true h1
    by_cases h2 : a < b
    · have f2 := decide_eq_true h2
      have f3 : decide (b ≤ 65536) = r := by rw [← h]; unfold MayH; simp [h1, h2]
      clear h h1 h2
      go_enter Try.func16, Try.ntmps16
      go_wp2
      go_ret
      exact ⟨rfl, rfl⟩
    · have f2 := decide_eq_false h2
      have f3 : r = false := by rw [← h]; unfold MayH; simp [h1, h2]
      subst f3
      clear h h1 h2
      go_enter Try.func16, Try.ntmps16
      go_wp2
      go_ret
      exact ⟨rfl, rfl⟩
  · have f1 := decide_eq_false h1
    have f3 : r = false := by rw [← h]; unfold MayH; simp [h1]
    subst f3
    clear h h1
    go_enter Try.func16, Try.ntmps16
    go_wp2
    go_ret
    exact ⟨rfl, rfl⟩
theorem blk_at {W : World} {g : Nat} {o : Obj} (e : g = W.heap.size) : (W.alloc o).heap[g]? = some o := e ▸ heap_alloc_new W o
theorem blk_putn {w : World} {g : Nat} {o : Obj} {p : Addr} (h : w.heap[g]? = some o) (hn : g ≠ p.block) (u : Value) : (w.setCell p u).heap[g]? = some o := (Below.heap_setCell w p u g hn).trans h
set_option maxHeartbeats 8000000 in
theorem rmeetC (a b c d : Int) (w : World) :
    Calls Try.prog 20 #[.agg #[.int .i64 a, .int .i64 b], .agg #[.int .i64 c, .int .i64 d]] w fun e w' => e = .returned (.agg #[.int .i64 (meetH a b c d).1, .int .i64 (meetH a b c d).2]) ∧ Below w.heap.size w w' := by
  have h1 := fun W => rmayC a b _ rfl W
  have h2 := fun W => rmayC c d _ rfl W
  obtain ⟨m, hm⟩ : ∃ m, meetH a b c d = m := ⟨_, rfl⟩
  rw [hm]
  unfold meetH at hm
  by_cases c1 : MayH a b
  · rw [decide_eq_true c1] at h1
    by_cases c2 : MayH c d
    · rw [decide_eq_true c2] at h2
      by_cases c3 : b ≤ c
      · obtain rfl : m = (0, 0) := by rw [← hm]; unfold MayH mx mn; exact if_neg (by unfold MayH at c1 c2; omega)
        have f0 : decide (b ≤ c) = true := decide_eq_true c3
        clear hm c1 c2 c3
        go_enter Try.func20, Try.ntmps20
        go_wp2_with (first
          | (go_at_call 16; (with_reducible refine (h1 _).mono ?_); rintro e w' ⟨rfl, rfl⟩)
          | (go_at_call 16; (with_reducible refine (h2 _).mono ?_); rintro e w2 ⟨rfl, rfl⟩))
        refine bodyPost_ret (results_cell_row rfl _ _ (w.heap.size + 1 + 1) 26 #[.int .i64 0, .int .i64 0] (0, 0) _ rfl ?_ Try.underlying26 rfl (by kernel_rfl)) rfl ?_
        · repeat (first | (refine blk_at ?_; simp; done) | refine blk_put (cs := #[.int .i64 0, .int .i64 0]) ?_ 1 _ rfl | refine blk_put (cs := #[.int .i64 0, .int .i64 0]) ?_ 0 _ rfl | (refine blk_putn ?_ ?_ _; rotate_left; (simp; done)) | refine blk_alloc ?_ _)
        · exact ⟨rfl, by repeat (first | exact Below.refl _ _ | refine below_alloc ?_ _ | refine below_set ?_ (by simp [Nat.add_assoc]))⟩
      · by_cases c4 : d ≤ a
        · obtain rfl : m = (0, 0) := by rw [← hm]; unfold MayH mx mn; exact if_neg (by unfold MayH at c1 c2; omega)
          have f0 : decide (b ≤ c) = false := decide_eq_false c3
          have f1 : decide (d ≤ a) = true := decide_eq_true c4
          clear hm c1 c2 c3 c4
          go_enter Try.func20, Try.ntmps20
          go_wp2_with (first
            | (go_at_call 16; (with_reducible refine (h1 _).mono ?_); rintro e w' ⟨rfl, rfl⟩)
            | (go_at_call 16; (with_reducible refine (h2 _).mono ?_); rintro e w2 ⟨rfl, rfl⟩))
          refine bodyPost_ret (results_cell_row rfl _ _ (w.heap.size + 1 + 1) 26 #[.int .i64 0, .int .i64 0] (0, 0) _ rfl ?_ Try.underlying26 rfl (by kernel_rfl)) rfl ?_
          · repeat (first | (refine blk_at ?_; simp; done) | refine blk_put (cs := #[.int .i64 0, .int .i64 0]) ?_ 1 _ rfl | refine blk_put (cs := #[.int .i64 0, .int .i64 0]) ?_ 0 _ rfl | (refine blk_putn ?_ ?_ _; rotate_left; (simp; done)) | refine blk_alloc ?_ _)
          · exact ⟨rfl, by repeat (first | exact Below.refl _ _ | refine below_alloc ?_ _ | refine below_set ?_ (by simp [Nat.add_assoc]))⟩
        · by_cases c5 : a < c
          · by_cases c6 : d < b
            · obtain rfl : m = (c, d) := by rw [← hm]; unfold MayH mx mn; unfold MayH at c1 c2; rw [if_pos (by omega)]; congr 1 <;> split <;> omega
              have f0 : decide (b ≤ c) = false := decide_eq_false c3
              have f1 : decide (d ≤ a) = false := decide_eq_false c4
              have f2 : decide (a < c) = true := decide_eq_true c5
              have f3 : decide (d < b) = true := decide_eq_true c6
              clear hm c1 c2 c3 c4 c5 c6
              go_enter Try.func20, Try.ntmps20
              go_wp2_with (first
                | (go_at_call 16; (with_reducible refine (h1 _).mono ?_); rintro e w' ⟨rfl, rfl⟩)
                | (go_at_call 16; (with_reducible refine (h2 _).mono ?_); rintro e w2 ⟨rfl, rfl⟩))
              refine bodyPost_ret (results_cell_row rfl _ _ (w.heap.size + 1 + 1) 26 #[.int .i64 c, .int .i64 d] (0, 0) _ rfl ?_ Try.underlying26 rfl (by kernel_rfl)) rfl ?_
              · repeat (first | (refine blk_at ?_; simp; done) | refine blk_put (cs := #[.int .i64 c, .int .i64 0]) ?_ 1 _ rfl | refine blk_put (cs := #[.int .i64 0, .int .i64 0]) ?_ 0 _ rfl | (refine blk_putn ?_ ?_ _; rotate_left; (simp; done)) | refine blk_alloc ?_ _)
              · exact ⟨rfl, by repeat (first | exact Below.refl _ _ | refine below_alloc ?_ _ | refine below_set ?_ (by simp [Nat.add_assoc]))⟩
            · obtain rfl : m = (c, b) := by rw [← hm]; unfold MayH mx mn; unfold MayH at c1 c2; rw [if_pos (by omega)]; congr 1 <;> split <;> omega
              have f0 : decide (b ≤ c) = false := decide_eq_false c3
              have f1 : decide (d ≤ a) = false := decide_eq_false c4
              have f2 : decide (a < c) = true := decide_eq_true c5
              have f3 : decide (d < b) = false := decide_eq_false c6
              clear hm c1 c2 c3 c4 c5 c6
              go_enter Try.func20, Try.ntmps20
              go_wp2_with (first
                | (go_at_call 16; (with_reducible refine (h1 _).mono ?_); rintro e w' ⟨rfl, rfl⟩)
                | (go_at_call 16; (with_reducible refine (h2 _).mono ?_); rintro e w2 ⟨rfl, rfl⟩))
              refine bodyPost_ret (results_cell_row rfl _ _ (w.heap.size + 1 + 1) 26 #[.int .i64 c, .int .i64 b] (0, 0) _ rfl ?_ Try.underlying26 rfl (by kernel_rfl)) rfl ?_
              · repeat (first | (refine blk_at ?_; simp; done) | refine blk_put (cs := #[.int .i64 c, .int .i64 0]) ?_ 1 _ rfl | refine blk_put (cs := #[.int .i64 0, .int .i64 0]) ?_ 0 _ rfl | (refine blk_putn ?_ ?_ _; rotate_left; (simp; done)) | refine blk_alloc ?_ _)
              · exact ⟨rfl, by repeat (first | exact Below.refl _ _ | refine below_alloc ?_ _ | refine below_set ?_ (by simp [Nat.add_assoc]))⟩
          · by_cases c6 : d < b
            · obtain rfl : m = (a, d) := by rw [← hm]; unfold MayH mx mn; unfold MayH at c1 c2; rw [if_pos (by omega)]; congr 1 <;> split <;> omega
              have f0 : decide (b ≤ c) = false := decide_eq_false c3
              have f1 : decide (d ≤ a) = false := decide_eq_false c4
              have f2 : decide (a < c) = false := decide_eq_false c5
              have f3 : decide (d < b) = true := decide_eq_true c6
              clear hm c1 c2 c3 c4 c5 c6
              go_enter Try.func20, Try.ntmps20
              go_wp2_with (first
                | (go_at_call 16; (with_reducible refine (h1 _).mono ?_); rintro e w' ⟨rfl, rfl⟩)
                | (go_at_call 16; (with_reducible refine (h2 _).mono ?_); rintro e w2 ⟨rfl, rfl⟩))
              refine bodyPost_ret (results_cell_row rfl _ _ (w.heap.size + 1 + 1) 26 #[.int .i64 a, .int .i64 d] (0, 0) _ rfl ?_ Try.underlying26 rfl (by kernel_rfl)) rfl ?_
              · repeat (first | (refine blk_at ?_; simp; done) | refine blk_put (cs := #[.int .i64 a, .int .i64 0]) ?_ 1 _ rfl | refine blk_put (cs := #[.int .i64 0, .int .i64 0]) ?_ 0 _ rfl | (refine blk_putn ?_ ?_ _; rotate_left; (simp; done)) | refine blk_alloc ?_ _)
              · exact ⟨rfl, by repeat (first | exact Below.refl _ _ | refine below_alloc ?_ _ | refine below_set ?_ (by simp [Nat.add_assoc]))⟩
            · obtain rfl : m = (a, b) := by rw [← hm]; unfold MayH mx mn; unfold MayH at c1 c2; rw [if_pos (by omega)]; congr 1 <;> split <;> omega
              have f0 : decide (b ≤ c) = false := decide_eq_false c3
              have f1 : decide (d ≤ a) = false := decide_eq_false c4
              have f2 : decide (a < c) = false := decide_eq_false c5
              have f3 : decide (d < b) = false := decide_eq_false c6
              clear hm c1 c2 c3 c4 c5 c6
              go_enter Try.func20, Try.ntmps20
              go_wp2_with (first
                | (go_at_call 16; (with_reducible refine (h1 _).mono ?_); rintro e w' ⟨rfl, rfl⟩)
                | (go_at_call 16; (with_reducible refine (h2 _).mono ?_); rintro e w2 ⟨rfl, rfl⟩))
              refine bodyPost_ret (results_cell_row rfl _ _ (w.heap.size + 1 + 1) 26 #[.int .i64 a, .int .i64 b] (0, 0) _ rfl ?_ Try.underlying26 rfl (by kernel_rfl)) rfl ?_
              · repeat (first | (refine blk_at ?_; simp; done) | refine blk_put (cs := #[.int .i64 a, .int .i64 0]) ?_ 1 _ rfl | refine blk_put (cs := #[.int .i64 0, .int .i64 0]) ?_ 0 _ rfl | (refine blk_putn ?_ ?_ _; rotate_left; (simp; done)) | refine blk_alloc ?_ _)
              · exact ⟨rfl, by repeat (first | exact Below.refl _ _ | refine below_alloc ?_ _ | refine below_set ?_ (by simp [Nat.add_assoc]))⟩
    · rw [decide_eq_false c2] at h2
      obtain rfl : m = (0, 0) := by rw [← hm]; exact if_neg (fun h => c2 h.2.1)
      clear hm c1 c2
      go_enter Try.func20, Try.ntmps20
      go_wp2_with (first
        | (go_at_call 16; (with_reducible refine (h1 _).mono ?_); rintro e w' ⟨rfl, rfl⟩)
        | (go_at_call 16; (with_reducible refine (h2 _).mono ?_); rintro e w2 ⟨rfl, rfl⟩))
      refine bodyPost_ret (results_cell_row rfl _ _ (w.heap.size + 1 + 1) 26 #[.int .i64 0, .int .i64 0] (0, 0) _ rfl ?_ Try.underlying26 rfl (by kernel_rfl)) rfl ?_
      · repeat (first | (refine blk_at ?_; simp; done) | refine blk_put (cs := #[.int .i64 0, .int .i64 0]) ?_ 1 _ rfl | refine blk_put (cs := #[.int .i64 0, .int .i64 0]) ?_ 0 _ rfl | (refine blk_putn ?_ ?_ _; rotate_left; (simp; done)) | refine blk_alloc ?_ _)
      · exact ⟨rfl, by repeat (first | exact Below.refl _ _ | refine below_alloc ?_ _ | refine below_set ?_ (by simp [Nat.add_assoc]))⟩
  · rw [decide_eq_false c1] at h1
    obtain rfl : m = (0, 0) := by rw [← hm]; exact if_neg (fun h => c1 h.1)
    clear hm c1
    go_enter Try.func20, Try.ntmps20
    go_wp2_with (first
      | (go_at_call 16; (with_reducible refine (h1 _).mono ?_); rintro e w' ⟨rfl, rfl⟩)
      | (go_at_call 16; (with_reducible refine (h2 _).mono ?_); rintro e w2 ⟨rfl, rfl⟩))
    refine bodyPost_ret (results_cell_row rfl _ _ (w.heap.size + 1 + 1) 26 #[.int .i64 0, .int .i64 0] (0, 0) _ rfl ?_ Try.underlying26 rfl (by kernel_rfl)) rfl ?_
    · repeat (first | (refine blk_at ?_; simp; done) | refine blk_put (cs := #[.int .i64 0, .int .i64 0]) ?_ 1 _ rfl | refine blk_put (cs := #[.int .i64 0, .int .i64 0]) ?_ 0 _ rfl | (refine blk_putn ?_ ?_ _; rotate_left; (simp; done)) | refine blk_alloc ?_ _)
    · exact ⟨rfl, by repeat (first | exact Below.refl _ _ | refine below_alloc ?_ _ | refine below_set ?_ (by simp [Nat.add_assoc]))⟩


def racewayref04_Meet.f (a0_0 : Int) (a0_1 : Int) (a1_0 : Int) (a1_1 : Int) : Option (Int × Int) := some (meetH a0_0 a0_1 a1_0 a1_1)
theorem racewayref04_Meet.calls (a0_0 : Int) (a0_1 : Int) (a1_0 : Int) (a1_1 : Int) (r1 : Int) (r2 : Int) (w : World) (h : racewayref04_Meet.f a0_0 a0_1 a1_0 a1_1 = some (r1, r2)) :
    Calls Try.prog 20 #[.agg #[.int .i64 a0_0, .int .i64 a0_1], .agg #[.int .i64 a1_0, .int .i64 a1_1]] w fun e w' => e = .returned (.agg #[.int .i64 r1, .int .i64 r2]) ∧ Below w.heap.size w w' := by
  have h1 := Option.some.inj h
  have h2 := rmeetC a0_0 a0_1 a1_0 a1_1 w
  rw [h1] at h2
  exact h2
end Go.Proofs.Ytimlagmgcfaepaa.P
