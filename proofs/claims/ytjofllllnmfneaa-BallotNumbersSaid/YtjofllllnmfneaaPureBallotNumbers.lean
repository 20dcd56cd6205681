import Derived.Test.YtjofllllnmfneaaStmBallotNumbers
import Derived.Test.YtjofllllnmfneaaPArith09
namespace Go.Proofs.Ytjofllllnmfneaa.Pure
open Go.RowKit Go.Proofs.Ytjofllllnmfneaa.P Go.Proofs.YtjofllllnmfneaaW.PrintWords Go.Proofs.YtjofllllnmfneaaW.PrintLast

theorem BallotNumbers : racewaylaw09_BallotNumbers.Pure := by
  intro a b wa wb
  have h := (wfI wa).2
  unfold racewaylaw09_BallotNumbers.f
  rw [make_f, rmake_f, next_f a b h, rnext_f a b h, round_f a h, rround_f a, nodeOf_f a h, rnode_f a, quorum_f a h, rquorum_f a h, works_f]
  simp
end Go.Proofs.Ytjofllllnmfneaa.Pure
