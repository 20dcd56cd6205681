/- The law BallotBack, walked by hand: it returns true. No conditions. -/
import Derived.Test.YtjofllllnmfneaaPArith09
import Derived.Deep.QuietTactic
import Derived.BigQuiet
namespace Go.Proofs.Ytjofllllnmfneaa.P
open Go.RowKit Go.Proofs.YtjofllllnmfneaaW.PrintWords Go.Proofs.YtjofllllnmfneaaW.PrintLast Go.Proofs.YtjofllllnmfneaaW.PrintMore
set_option linter.unusedVariables false
set_option linter.unusedSimpArgs false

theorem fin {w w2 : World} {o : Obj} {k : Nat} (hb : Below ((w.alloc o).drewN k).heap.size ((w.alloc o).drewN k) w2) : Below w.heap.size w w2 :=
  (pw_below_drewN (below_alloc (Below.refl _ w) o) k).trans (hb.mono (by show w.heap.size ≤ (w.alloc o).heap.size; simp))

set_option maxHeartbeats 4000000 in
set_option maxRecDepth 100000 in
theorem back.calls (r n o0 o1 : Int) (w : World) :
    Calls Try.prog 7 #[.int .i64 r, .int .i64 n, .agg #[.int .i64 o0, .int .i64 o1]] w fun e w' => e = .returned (.bool true) ∧ Below w.heap.size w w' := by
  have hW := fun W => racewaylaw09_works.calls true W works_f
  by_cases h1 : 1 ≤ r ∧ r ≤ 68719476736 ∧ 0 ≤ n ∧ n ≤ 4
  · have hM := fun W => ballot_Make.calls r n (8 * r + n) 0 W (by rw [make_f]; unfold mkB; rw [if_pos h1])
    have hi : isB (8 * r + n) = true := (isB_iff _).2 (by omega)
    have hR := fun W => ballot_Round.calls (8 * r + n) r W (by rw [round_f _ (by omega)]; unfold roundB; rw [if_pos hi]; congr 1; omega)
    have hN := fun W => ballot_Node.calls (8 * r + n) n W (by rw [nodeOf_f _ (by omega)]; unfold nodeOf; rw [if_pos hi]; congr 1; omega)
    have hb1 : 1 ≤ 8 * r + n := by omega
    obtain ⟨b, hb⟩ : ∃ b, b = 8 * r + n := ⟨_, rfl⟩
    rw [← hb] at hM hR hN hb1
    have HB := Aside0.mk hb
    have H1 := Aside0.mk h1
    clear hi h1 hb
    by_cases h2 : 1 ≤ o0 ∧ o0 ≤ 68719476736 ∧ 0 ≤ o1 ∧ o1 ≤ 4
    · have hM2 := fun W => ballot_Make.calls o0 o1 (8 * o0 + o1) 0 W (by rw [make_f]; unfold mkB; rw [if_pos h2])
      obtain ⟨c, hc⟩ : ∃ c, c = 8 * o0 + o1 := ⟨_, rfl⟩
      rw [← hc] at hM2
      have hd : decide (b < 1) = false := decide_eq_false (by omega)
      have h1 := H1.out
      have hb := HB.out
      by_cases e1 : r = o0
      · by_cases e2 : n = o1
        · subst e1
          subst e2
          obtain rfl : b = c := hb.trans hc.symm
          clear h1 h2 hb hc
          go_enter Try.func7, Try.ntmps7
          go_wp2_with (first
        | (go_at_call 16; (with_reducible refine (hM _).mono ?_); rintro e w' ⟨rfl, nd, rfl⟩)
        | (go_at_call 16; (with_reducible refine (hM2 _).mono ?_); rintro e w' ⟨rfl, nd, rfl⟩)
        | (go_at_call 20; refine (hR _).mono ?_; rintro e w' ⟨rfl, nd, rfl⟩)
        | (go_at_call 22; refine (hN _).mono ?_; rintro e w' ⟨rfl, nd, rfl⟩)
        | (go_at_call 14; refine (hW _).mono ?_; rintro e w2 ⟨rfl, hb⟩))
          go_ret
          exact ⟨rfl, fin hb⟩
        · have f1 : (b == c) = false := beq_eq_false_iff_ne.mpr (by omega)
          have f2 : (n == o1) = false := beq_eq_false_iff_ne.mpr e2
          subst e1
          clear h1 h2 hb hc e2
          go_enter Try.func7, Try.ntmps7
          go_wp2_with (first
        | (go_at_call 16; (with_reducible refine (hM _).mono ?_); rintro e w' ⟨rfl, nd, rfl⟩)
        | (go_at_call 16; (with_reducible refine (hM2 _).mono ?_); rintro e w' ⟨rfl, nd, rfl⟩)
        | (go_at_call 20; refine (hR _).mono ?_; rintro e w' ⟨rfl, nd, rfl⟩)
        | (go_at_call 22; refine (hN _).mono ?_; rintro e w' ⟨rfl, nd, rfl⟩)
        | (go_at_call 14; refine (hW _).mono ?_; rintro e w2 ⟨rfl, hb⟩))
          go_ret
          exact ⟨rfl, fin hb⟩
      · have f1 : (b == c) = false := beq_eq_false_iff_ne.mpr (by omega)
        have f2 : (r == o0) = false := beq_eq_false_iff_ne.mpr e1
        by_cases e3 : r < o0
        · have f3 : decide (r < o0) = true := decide_eq_true e3
          have f4 : decide (b < c) = true := decide_eq_true (by omega)
          clear h1 h2 hb hc e1 e3
          go_enter Try.func7, Try.ntmps7
          go_wp2_with (first
        | (go_at_call 16; (with_reducible refine (hM _).mono ?_); rintro e w' ⟨rfl, nd, rfl⟩)
        | (go_at_call 16; (with_reducible refine (hM2 _).mono ?_); rintro e w' ⟨rfl, nd, rfl⟩)
        | (go_at_call 20; refine (hR _).mono ?_; rintro e w' ⟨rfl, nd, rfl⟩)
        | (go_at_call 22; refine (hN _).mono ?_; rintro e w' ⟨rfl, nd, rfl⟩)
        | (go_at_call 14; refine (hW _).mono ?_; rintro e w2 ⟨rfl, hb⟩))
          go_ret
          exact ⟨rfl, fin hb⟩
        · have f3 : decide (r < o0) = false := decide_eq_false e3
          have f4 : decide (b < c) = false := decide_eq_false (by omega)
          clear h1 h2 hb hc e1 e3
          go_enter Try.func7, Try.ntmps7
          go_wp2_with (first
        | (go_at_call 16; (with_reducible refine (hM _).mono ?_); rintro e w' ⟨rfl, nd, rfl⟩)
        | (go_at_call 16; (with_reducible refine (hM2 _).mono ?_); rintro e w' ⟨rfl, nd, rfl⟩)
        | (go_at_call 20; refine (hR _).mono ?_; rintro e w' ⟨rfl, nd, rfl⟩)
        | (go_at_call 22; refine (hN _).mono ?_; rintro e w' ⟨rfl, nd, rfl⟩)
        | (go_at_call 14; refine (hW _).mono ?_; rintro e w2 ⟨rfl, hb⟩))
          go_ret
          exact ⟨rfl, fin hb⟩
    · have hM2 := fun W => ballot_Make.calls o0 o1 0 2 W (by rw [make_f]; unfold mkB; rw [if_neg h2])
      clear h2
      have hd : decide (b < 1) = false := decide_eq_false (by omega)
      go_enter Try.func7, Try.ntmps7
      go_wp2_with (first
        | (go_at_call 16; (with_reducible refine (hM _).mono ?_); rintro e w' ⟨rfl, nd, rfl⟩)
        | (go_at_call 16; (with_reducible refine (hM2 _).mono ?_); rintro e w' ⟨rfl, nd, rfl⟩)
        | (go_at_call 20; refine (hR _).mono ?_; rintro e w' ⟨rfl, nd, rfl⟩)
        | (go_at_call 22; refine (hN _).mono ?_; rintro e w' ⟨rfl, nd, rfl⟩)
        | (go_at_call 14; refine (hW _).mono ?_; rintro e w2 ⟨rfl, hb⟩))
      go_ret
      exact ⟨rfl, fin hb⟩
  · have hM := fun W => ballot_Make.calls r n 0 2 W (by rw [make_f]; unfold mkB; rw [if_neg h1])
    clear h1
    go_enter Try.func7, Try.ntmps7
    go_wp2_with (first
      | (go_at_call 16; refine (hM _).mono ?_; rintro e w' ⟨rfl, nd, rfl⟩)
      | (go_at_call 14; refine (hW _).mono ?_; rintro e w2 ⟨rfl, hb⟩))
    go_ret
    exact ⟨rfl, fin hb⟩
end Go.Proofs.Ytjofllllnmfneaa.P
