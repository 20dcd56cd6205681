import Derived.Test.YtjofllllnmfneaaStmBallotQuorums
import Derived.Test.YtjofllllnmfneaaPArith09
namespace Go.Proofs.Ytjofllllnmfneaa.Pure
open Go.RowKit Go.Proofs.Ytjofllllnmfneaa.P Go.Proofs.YtjofllllnmfneaaW.PrintWords Go.Proofs.YtjofllllnmfneaaW.PrintLast

theorem loop (a b n q : Int) (h1 : 1 ≤ n) (h5 : n ≤ 5) (hq : q = n / 2 + 1) (d : Nat) : ∀ i x y z : Int, 0 ≤ i → i + d = n → 0 ≤ x → x ≤ i → 0 ≤ y → y ≤ i → 0 ≤ z → z ≤ i → x + y ≤ i + z →
    Ev (fun k => racewaylaw09_BallotQuorums.l0 k n a b q x y z n i) true := by
  have hq2 : wrap64 (2 * wrap64 (q - 1)) = 2 * (q - 1) := by rw [w64 (x := q - 1) (by omega) (by omega), w64 (by omega) (by omega)]
  induction d with
  | zero =>
    intro i x y z _ hi _ _ _ _ _ _ hs
    refine Ev.step (f := fun _ => some true) (fun k => ?_) (Ev.now _)
    simp only [racewaylaw09_BallotQuorums.l0]
    rw [if_neg (by omega), works_f, hq2]
    simp only [Option.bind_some]
    by_cases c1 : x < q
    · rw [if_pos c1, if_pos (by omega), if_pos (by omega)]
    · rw [if_neg c1]
      by_cases c2 : y < q
      · rw [if_pos c2, if_pos (by omega), if_pos (by omega)]
      · rw [if_neg c2, if_pos (by omega), if_pos (by omega), if_pos (by omega)]
  | succ d ih =>
    intro i x y z h0 hi hx1 hx2 hy1 hy2 hz1 hz2 hs
    have e1 : wrap64 (i + 1) = i + 1 := w64 (by omega) (by omega)
    have e2 : wrap64 (x + 1) = x + 1 := w64 (by omega) (by omega)
    have e3 : wrap64 (y + 1) = y + 1 := w64 (by omega) (by omega)
    have e4 : wrap64 (z + 1) = z + 1 := w64 (by omega) (by omega)
    by_cases c1 : Go.bits .and .u8 (shr .u8 a i) 1 = 1
    · by_cases c2 : Go.bits .and .u8 (shr .u8 b i) 1 = 1
      · refine Ev.step (fun k => ?_) (ih (i + 1) (x + 1) (y + 1) (z + 1) (by omega) (by omega) (by omega) (by omega) (by omega) (by omega) (by omega) (by omega) (by omega))
        simp only [racewaylaw09_BallotQuorums.l0]
        rw [if_pos (by omega), if_pos h0, if_pos c1, if_pos c2, e1, e2, e3, e4]
      · refine Ev.step (fun k => ?_) (ih (i + 1) (x + 1) y z (by omega) (by omega) (by omega) (by omega) (by omega) (by omega) (by omega) (by omega) (by omega))
        simp only [racewaylaw09_BallotQuorums.l0]
        rw [if_pos (by omega), if_pos h0, if_pos c1, if_neg c2, e1, e2]
    · by_cases c2 : Go.bits .and .u8 (shr .u8 b i) 1 = 1
      · refine Ev.step (fun k => ?_) (ih (i + 1) x (y + 1) z (by omega) (by omega) (by omega) (by omega) (by omega) (by omega) (by omega) (by omega) (by omega))
        simp only [racewaylaw09_BallotQuorums.l0]
        rw [if_pos (by omega), if_pos h0, if_neg c1, if_pos c2, e1, e3]
      · refine Ev.step (fun k => ?_) (ih (i + 1) x y z (by omega) (by omega) (by omega) (by omega) (by omega) (by omega) (by omega) (by omega) (by omega))
        simp only [racewaylaw09_BallotQuorums.l0]
        rw [if_pos (by omega), if_pos h0, if_neg c1, if_neg c2, e1]

theorem mod5 (a : Int) : ∃ n : Int, wrap64 (1 + (Int.tmod (wrap64 ((Int.tmod a 5) + 5)) 5)) = n ∧ 1 ≤ n ∧ n ≤ 5 := by
  have h1 : -5 < Int.tmod a 5 ∧ Int.tmod a 5 < 5 := by
    by_cases h : 0 ≤ a
    · rw [Int.tmod_eq_emod_of_nonneg h]; omega
    · have e : a = -(-a) := by omega
      rw [e, Int.neg_tmod, Int.tmod_eq_emod_of_nonneg (by omega)]
      omega
  rw [w64 (x := Int.tmod a 5 + 5) (by omega) (by omega), Int.tmod_eq_emod_of_nonneg (by omega), w64 (by omega) (by omega)]
  exact ⟨_, rfl, by omega, by omega⟩

theorem BallotQuorums : racewaylaw09_BallotQuorums.Pure := by
  intro a0 a b w0 wa wb
  obtain ⟨n, hn, h1, h5⟩ := mod5 a0
  have hq : ballot_Quorum.f n = some (n / 2 + 1) := by rw [quorum_f n (by omega)]; unfold quorumB; rw [if_neg (by omega)]
  obtain ⟨k, hk⟩ := (loop a b n (n / 2 + 1) h1 h5 rfl n.toNat 0 0 0 0 (by omega) (by omega) (by omega) (by omega) (by omega) (by omega) (by omega) (by omega) (by omega)).rounds
  refine ⟨k, ?_⟩
  unfold racewaylaw09_BallotQuorums.f
  rw [hn, hq]
  exact hk
end Go.Proofs.Ytjofllllnmfneaa.Pure
