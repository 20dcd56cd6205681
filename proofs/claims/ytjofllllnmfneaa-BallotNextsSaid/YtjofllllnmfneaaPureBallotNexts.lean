import Derived.Test.YtjofllllnmfneaaStmBallotNexts
import Derived.Test.YtjofllllnmfneaaPArith09
namespace Go.Proofs.Ytjofllllnmfneaa.Pure
open Go.RowKit Go.Proofs.Ytjofllllnmfneaa.P Go.Proofs.YtjofllllnmfneaaW.PrintWords Go.Proofs.YtjofllllnmfneaaW.PrintLast

theorem BallotNexts : racewaylaw09_BallotNexts.Pure := by
  intro b n wb wn
  have h := (wfI wb).2
  unfold racewaylaw09_BallotNexts.f
  rw [next_f b n h, works_f]
  simp only [Option.bind_some]
  by_cases h0 : b < 0 ∨ n < 0 ∨ 4 < n ∨ 549755813888 + n ≤ b
  · have e : nxB b n = (0, 2) := by unfold nxB; rw [if_pos h0]
    rw [e]
    rfl
  · obtain ⟨x, e, hx⟩ : ∃ x, nxB b n = (x, 0) ∧ (x = (if b - b % 8 + n ≤ b then b - b % 8 + n + 8 else (if b - b % 8 + n < 8 then 8 + n else b - b % 8 + n))) := ⟨_, by unfold nxB; rw [if_neg h0], rfl⟩
    rw [e]
    have hx1 : b < x ∧ 8 ≤ x ∧ x ≤ 549755813892 ∧ x % 8 = n ∧ (x - 8 ≤ b ∨ x < 16) := by
      rw [hx]
      split
      · omega
      · split <;> omega
    have hi : isB x = true := (isB_iff x).2 (by omega)
    simp only
    rw [if_pos trivial, if_neg (by omega), nodeOf_f x (by omega)]
    simp only [Option.bind_some, nodeOf, hi, if_true]
    rw [if_pos (by omega), if_neg (by omega), round_f x (by omega)]
    simp only [Option.bind_some, roundB, hi, if_true]
    rw [w64 (x := x / 8 - 1) (by omega) (by omega), make_f]
    simp only [Option.bind_some, mkB]
    by_cases h1 : 1 ≤ x / 8 - 1 ∧ x / 8 - 1 ≤ 68719476736 ∧ 0 ≤ n ∧ n ≤ 4
    · rw [if_pos h1]
      simp only
      rw [if_pos trivial, if_pos (by omega)]
    · rw [if_neg h1]
      rfl
end Go.Proofs.Ytjofllllnmfneaa.Pure
