/-
  No cell of these rows narrows 'for every input' (looked for: loops, veiled, ifaces, maps, wideKeys, modest, calm, conditions, laid).
  DERIVED. THE GIVEN ROWS OF THIS SEAT. 7 by the template 'for every input the law returns true; each argument reads behind the call as it read before'; 0 by the template 'total and deterministic' (their statements: YtjofllllnmfneaaTotals.lean).
  GIVEN WITH THE SEED: the statements are not yours to turn. If you find one false, say at which input.
  Laid BY PROGRAM, IN A SANDBOX (cutbox-rows.mjs): the forced cells as the released guide's own fill.sh prints them over the translation 7e1e5aa00750309e… (all of the seat's roots in one cut). By AI agents, Wed Nov 11 2026. No macro, syntax, notation, axiom, sorry.
-/
import Derived.Test.YtjofllllnmfneaaChecked
import GoSem.Claim
import GoSem.ClaimJoined
import GoSem.ClaimMapViews
import Derived.JoinedTies
import Derived.KernelRfl
namespace Go.Proofs.Ytjofllllnmfneaa
/- THE CELL 'sum', in the pinned program and in every row, IS THE sha256 OF THE DUMP (.gsa) THAT YtjofllllnmfneaaProg.lean LOADS. Nothing in Lean hashes anything: it is a label: what it is worth is what the hold of that sum in a sandbox is worth. -/
noncomputable def Try.pinned : Pinned := { name := "ytjofllllnmfneaa", sum := "7e1e5aa00750309e78c603602e6f9db83cd3386685621994a5a027d8f324f3a7", checked := Try.checked }
namespace Rows
def none {H : Type} : Left H := { results := [], args := [] }

/-- 'racewaylaw09.BallotMerges': WHATEVER THE INPUT: true; the input reads as it did. -/
def ballotMergesSpec : ChangeSpec := { name := "ballotMerges", fn := fun _ => fun
  | [d1, d2, d3] => { results := [.lit (.bool true)], args := [d1, d2, d3] }
  | _ => none }
def ballotMergesRow : OpenClaim := { program := "ytjofllllnmfneaa", sum := "7e1e5aa00750309e78c603602e6f9db83cd3386685621994a5a027d8f324f3a7", func := "raceway/racewaylaw09.BallotMerges", spec := "ballotMerges", unfollowed := true, recurses := true, apart := false }
def BallotMergesSaid : Prop := ballotMergesRow.holds Try.pinned (OpenSpec.ofChange ballotMergesSpec)

/-- ITS FALSE NEIGHBOUR: 'it returns false'. Refute it at one input. -/
def ballotMergesWrong : ChangeSpec := { name := "ballotMerges", fn := fun _ => fun
  | [d1, d2, d3] => { results := [.lit (.bool false)], args := [d1, d2, d3] }
  | _ => none }
def BallotMergesWrongFalsely : Prop := ballotMergesRow.holds Try.pinned (OpenSpec.ofChange ballotMergesWrong)

/-- 'racewaylaw09.BallotQuorums': WHATEVER THE INPUT: true; the input reads as it did. -/
def ballotQuorumsSpec : ChangeSpec := { name := "ballotQuorums", fn := fun _ => fun
  | [d1, d2, d3] => { results := [.lit (.bool true)], args := [d1, d2, d3] }
  | _ => none }
def ballotQuorumsRow : OpenClaim := { program := "ytjofllllnmfneaa", sum := "7e1e5aa00750309e78c603602e6f9db83cd3386685621994a5a027d8f324f3a7", func := "raceway/racewaylaw09.BallotQuorums", spec := "ballotQuorums", unfollowed := true, recurses := true, apart := false }
def BallotQuorumsSaid : Prop := ballotQuorumsRow.holds Try.pinned (OpenSpec.ofChange ballotQuorumsSpec)

/-- ITS FALSE NEIGHBOUR: 'it returns false'. Refute it at one input. -/
def ballotQuorumsWrong : ChangeSpec := { name := "ballotQuorums", fn := fun _ => fun
  | [d1, d2, d3] => { results := [.lit (.bool false)], args := [d1, d2, d3] }
  | _ => none }
def BallotQuorumsWrongFalsely : Prop := ballotQuorumsRow.holds Try.pinned (OpenSpec.ofChange ballotQuorumsWrong)

/-- 'racewaylaw09.BallotVotes': WHATEVER THE INPUT: true; the input reads as it did. -/
def ballotVotesSpec : ChangeSpec := { name := "ballotVotes", fn := fun _ => fun
  | [d1, d2] => { results := [.lit (.bool true)], args := [d1, d2] }
  | _ => none }
def ballotVotesRow : OpenClaim := { program := "ytjofllllnmfneaa", sum := "7e1e5aa00750309e78c603602e6f9db83cd3386685621994a5a027d8f324f3a7", func := "raceway/racewaylaw09.BallotVotes", spec := "ballotVotes", unfollowed := true, recurses := true, apart := false }
def BallotVotesSaid : Prop := ballotVotesRow.holds Try.pinned (OpenSpec.ofChange ballotVotesSpec)

/-- ITS FALSE NEIGHBOUR: 'it returns false'. Refute it at one input. -/
def ballotVotesWrong : ChangeSpec := { name := "ballotVotes", fn := fun _ => fun
  | [d1, d2] => { results := [.lit (.bool false)], args := [d1, d2] }
  | _ => none }
def BallotVotesWrongFalsely : Prop := ballotVotesRow.holds Try.pinned (OpenSpec.ofChange ballotVotesWrong)

/-- 'racewaylaw09.BallotNumbers': WHATEVER THE INPUT: true; the input reads as it did. -/
def ballotNumbersSpec : ChangeSpec := { name := "ballotNumbers", fn := fun _ => fun
  | [d1, d2] => { results := [.lit (.bool true)], args := [d1, d2] }
  | _ => none }
def ballotNumbersRow : OpenClaim := { program := "ytjofllllnmfneaa", sum := "7e1e5aa00750309e78c603602e6f9db83cd3386685621994a5a027d8f324f3a7", func := "raceway/racewaylaw09.BallotNumbers", spec := "ballotNumbers", unfollowed := true, recurses := true, apart := false }
def BallotNumbersSaid : Prop := ballotNumbersRow.holds Try.pinned (OpenSpec.ofChange ballotNumbersSpec)

/-- ITS FALSE NEIGHBOUR: 'it returns false'. Refute it at one input. -/
def ballotNumbersWrong : ChangeSpec := { name := "ballotNumbers", fn := fun _ => fun
  | [d1, d2] => { results := [.lit (.bool false)], args := [d1, d2] }
  | _ => none }
def BallotNumbersWrongFalsely : Prop := ballotNumbersRow.holds Try.pinned (OpenSpec.ofChange ballotNumbersWrong)

/-- 'racewaylaw09.BallotBack': WHATEVER THE INPUT: true; the input reads as it did. -/
def ballotBackSpec : ChangeSpec := { name := "ballotBack", fn := fun _ => fun
  | [d1, d2, d3] => { results := [.lit (.bool true)], args := [d1, d2, d3] }
  | _ => none }
def ballotBackRow : OpenClaim := { program := "ytjofllllnmfneaa", sum := "7e1e5aa00750309e78c603602e6f9db83cd3386685621994a5a027d8f324f3a7", func := "raceway/racewaylaw09.BallotBack", spec := "ballotBack", unfollowed := true, recurses := true, apart := false }
def BallotBackSaid : Prop := ballotBackRow.holds Try.pinned (OpenSpec.ofChange ballotBackSpec)

/-- ITS FALSE NEIGHBOUR: 'it returns false'. Refute it at one input. -/
def ballotBackWrong : ChangeSpec := { name := "ballotBack", fn := fun _ => fun
  | [d1, d2, d3] => { results := [.lit (.bool false)], args := [d1, d2, d3] }
  | _ => none }
def BallotBackWrongFalsely : Prop := ballotBackRow.holds Try.pinned (OpenSpec.ofChange ballotBackWrong)

/-- 'racewaylaw09.BallotNexts': WHATEVER THE INPUT: true; the input reads as it did. -/
def ballotNextsSpec : ChangeSpec := { name := "ballotNexts", fn := fun _ => fun
  | [d1, d2] => { results := [.lit (.bool true)], args := [d1, d2] }
  | _ => none }
def ballotNextsRow : OpenClaim := { program := "ytjofllllnmfneaa", sum := "7e1e5aa00750309e78c603602e6f9db83cd3386685621994a5a027d8f324f3a7", func := "raceway/racewaylaw09.BallotNexts", spec := "ballotNexts", unfollowed := true, recurses := true, apart := false }
def BallotNextsSaid : Prop := ballotNextsRow.holds Try.pinned (OpenSpec.ofChange ballotNextsSpec)

/-- ITS FALSE NEIGHBOUR: 'it returns false'. Refute it at one input. -/
def ballotNextsWrong : ChangeSpec := { name := "ballotNexts", fn := fun _ => fun
  | [d1, d2] => { results := [.lit (.bool false)], args := [d1, d2] }
  | _ => none }
def BallotNextsWrongFalsely : Prop := ballotNextsRow.holds Try.pinned (OpenSpec.ofChange ballotNextsWrong)

/-- 'racewaylaw09.BallotSets': WHATEVER THE INPUT: true; the input reads as it did. -/
def ballotSetsSpec : ChangeSpec := { name := "ballotSets", fn := fun _ => fun
  | [d1, d2] => { results := [.lit (.bool true)], args := [d1, d2] }
  | _ => none }
def ballotSetsRow : OpenClaim := { program := "ytjofllllnmfneaa", sum := "7e1e5aa00750309e78c603602e6f9db83cd3386685621994a5a027d8f324f3a7", func := "raceway/racewaylaw09.BallotSets", spec := "ballotSets", unfollowed := true, recurses := true, apart := false }
def BallotSetsSaid : Prop := ballotSetsRow.holds Try.pinned (OpenSpec.ofChange ballotSetsSpec)

/-- ITS FALSE NEIGHBOUR: 'it returns false'. Refute it at one input. -/
def ballotSetsWrong : ChangeSpec := { name := "ballotSets", fn := fun _ => fun
  | [d1, d2] => { results := [.lit (.bool false)], args := [d1, d2] }
  | _ => none }
def BallotSetsWrongFalsely : Prop := ballotSetsRow.holds Try.pinned (OpenSpec.ofChange ballotSetsWrong)

/- THE SECOND FORM. 'bulk': how many values and letters a reading holds, each counted each time it is reached (what is shared counts as often as it is met; a slice's spare places count too). A statement '..UptoSaid' is the law's where the arguments, and the package variables that the reading takes, are together of bulk at most 1048576: NARROWER than '..Said'. Prove '..Said' where nothing that the law and all that it calls make is longer than what came in: it says more and counts as full. Else prove '..UptoSaid'. A law counts once. -/
mutual
def uptoBulk {H : Type} : DataW H → Nat
  | .lit (.string bytes) => bytes.length + 1
  | .lit _ => 1
  | .nil => 1
  | .ptr d => uptoBulk d + 1
  | .slice elems spare => uptoBulkAll elems + uptoBulkAll spare + 1
  | .agg parts => uptoBulkAll parts + 1
  | .iface _ d => uptoBulk d + 1
  | .map entries => uptoBulkEntries entries + 1
  | .held _ => 1
def uptoBulkAll {H : Type} : List (DataW H) → Nat
  | [] => 0
  | d :: r => uptoBulk d + uptoBulkAll r
def uptoBulkEntries {H : Type} : List (Lit × DataW H) → Nat
  | [] => 0
  | x :: r => uptoBulkEntry x + uptoBulkEntries r
def uptoBulkEntry {H : Type} : Lit × DataW H → Nat
  | (.string bytes, d) => bytes.length + uptoBulk d + 1
  | (_, d) => uptoBulk d + 1
 end
def uptoSmall : (H : Type) → List (DataW H) → Bool := fun _ ds => decide (uptoBulkAll ds ≤ 1048576)
def OpenSpec.upto (s : _root_.Go.ChangeSpec) : _root_.Go.OpenSpec := { _root_.Go.OpenSpec.ofChange s with cond := some uptoSmall }

/-- 'racewaylaw09.BallotMerges', WHERE WHAT IT READS IS OF BULK AT MOST 1048576: true; the input reads as it did. -/
def ballotMergesUptoRow : OpenClaim := { program := "ytjofllllnmfneaa", sum := "7e1e5aa00750309e78c603602e6f9db83cd3386685621994a5a027d8f324f3a7", func := "raceway/racewaylaw09.BallotMerges", spec := "ballotMerges", unfollowed := true, recurses := true, apart := false, narrowed := true }
def BallotMergesUptoSaid : Prop := ballotMergesUptoRow.holds Try.pinned (OpenSpec.upto ballotMergesSpec)

/-- 'racewaylaw09.BallotQuorums', WHERE WHAT IT READS IS OF BULK AT MOST 1048576: true; the input reads as it did. -/
def ballotQuorumsUptoRow : OpenClaim := { program := "ytjofllllnmfneaa", sum := "7e1e5aa00750309e78c603602e6f9db83cd3386685621994a5a027d8f324f3a7", func := "raceway/racewaylaw09.BallotQuorums", spec := "ballotQuorums", unfollowed := true, recurses := true, apart := false, narrowed := true }
def BallotQuorumsUptoSaid : Prop := ballotQuorumsUptoRow.holds Try.pinned (OpenSpec.upto ballotQuorumsSpec)

/-- 'racewaylaw09.BallotVotes', WHERE WHAT IT READS IS OF BULK AT MOST 1048576: true; the input reads as it did. -/
def ballotVotesUptoRow : OpenClaim := { program := "ytjofllllnmfneaa", sum := "7e1e5aa00750309e78c603602e6f9db83cd3386685621994a5a027d8f324f3a7", func := "raceway/racewaylaw09.BallotVotes", spec := "ballotVotes", unfollowed := true, recurses := true, apart := false, narrowed := true }
def BallotVotesUptoSaid : Prop := ballotVotesUptoRow.holds Try.pinned (OpenSpec.upto ballotVotesSpec)

/-- 'racewaylaw09.BallotNumbers', WHERE WHAT IT READS IS OF BULK AT MOST 1048576: true; the input reads as it did. -/
def ballotNumbersUptoRow : OpenClaim := { program := "ytjofllllnmfneaa", sum := "7e1e5aa00750309e78c603602e6f9db83cd3386685621994a5a027d8f324f3a7", func := "raceway/racewaylaw09.BallotNumbers", spec := "ballotNumbers", unfollowed := true, recurses := true, apart := false, narrowed := true }
def BallotNumbersUptoSaid : Prop := ballotNumbersUptoRow.holds Try.pinned (OpenSpec.upto ballotNumbersSpec)

/-- 'racewaylaw09.BallotBack', WHERE WHAT IT READS IS OF BULK AT MOST 1048576: true; the input reads as it did. -/
def ballotBackUptoRow : OpenClaim := { program := "ytjofllllnmfneaa", sum := "7e1e5aa00750309e78c603602e6f9db83cd3386685621994a5a027d8f324f3a7", func := "raceway/racewaylaw09.BallotBack", spec := "ballotBack", unfollowed := true, recurses := true, apart := false, narrowed := true }
def BallotBackUptoSaid : Prop := ballotBackUptoRow.holds Try.pinned (OpenSpec.upto ballotBackSpec)

/-- 'racewaylaw09.BallotNexts', WHERE WHAT IT READS IS OF BULK AT MOST 1048576: true; the input reads as it did. -/
def ballotNextsUptoRow : OpenClaim := { program := "ytjofllllnmfneaa", sum := "7e1e5aa00750309e78c603602e6f9db83cd3386685621994a5a027d8f324f3a7", func := "raceway/racewaylaw09.BallotNexts", spec := "ballotNexts", unfollowed := true, recurses := true, apart := false, narrowed := true }
def BallotNextsUptoSaid : Prop := ballotNextsUptoRow.holds Try.pinned (OpenSpec.upto ballotNextsSpec)

/-- 'racewaylaw09.BallotSets', WHERE WHAT IT READS IS OF BULK AT MOST 1048576: true; the input reads as it did. -/
def ballotSetsUptoRow : OpenClaim := { program := "ytjofllllnmfneaa", sum := "7e1e5aa00750309e78c603602e6f9db83cd3386685621994a5a027d8f324f3a7", func := "raceway/racewaylaw09.BallotSets", spec := "ballotSets", unfollowed := true, recurses := true, apart := false, narrowed := true }
def BallotSetsUptoSaid : Prop := ballotSetsUptoRow.holds Try.pinned (OpenSpec.upto ballotSetsSpec)

end Rows
end Go.Proofs.Ytjofllllnmfneaa
