/-
  No cell of these rows narrows 'for every input' (looked for: loops, veiled, ifaces, maps, wideKeys, modest, calm, conditions, laid).
  DERIVED. THE GIVEN ROWS OF THIS SEAT. 4 by the template 'for every input the law returns true; each argument reads behind the call as it read before'; 0 by the template 'total and deterministic' (their statements: YtonedijkgddepaaTotals.lean).
  GIVEN WITH THE SEED: the statements are not yours to turn. If you find one false, say at which input.
  Laid BY PROGRAM, IN A SANDBOX (cutbox-rows.mjs): the forced cells as the released guide's own fill.sh prints them over the translation e1b33e0fc99736a3… (all of the seat's roots in one cut). By AI agents, Wed Nov 11 2026. No macro, syntax, notation, axiom, sorry.
-/
import Derived.Test.YtonedijkgddepaaChecked
import GoSem.Claim
import GoSem.ClaimJoined
import GoSem.ClaimMapViews
import Derived.JoinedTies
import Derived.KernelRfl
namespace Go.Proofs.Ytonedijkgddepaa
/- THE CELL 'sum', in the pinned program and in every row, IS THE sha256 OF THE DUMP (.gsa) THAT YtonedijkgddepaaProg.lean LOADS. Nothing in Lean hashes anything: it is a label: what it is worth is what the hold of that sum in a sandbox is worth. -/
noncomputable def Try.pinned : Pinned := { name := "ytonedijkgddepaa", sum := "e1b33e0fc99736a3e44518efff212e3ae71b3eb8f3d824e45573f556ed89dfa7", checked := Try.checked }
namespace Rows
def none {H : Type} : Left H := { results := [], args := [] }

/-- 'racewaylaw18.FrontNumbers': WHATEVER THE INPUT: true; the input reads as it did. -/
def frontNumbersSpec : ChangeSpec := { name := "frontNumbers", fn := fun _ => fun
  | [d1, d2] => { results := [.lit (.bool true)], args := [d1, d2] }
  | _ => none }
def frontNumbersRow : OpenClaim := { program := "ytonedijkgddepaa", sum := "e1b33e0fc99736a3e44518efff212e3ae71b3eb8f3d824e45573f556ed89dfa7", func := "raceway/racewaylaw18.FrontNumbers", spec := "frontNumbers", unfollowed := true, recurses := true, apart := false }
def FrontNumbersSaid : Prop := frontNumbersRow.holds Try.pinned (OpenSpec.ofChange frontNumbersSpec)

/-- ITS FALSE NEIGHBOUR: 'it returns false'. Refute it at one input. -/
def frontNumbersWrong : ChangeSpec := { name := "frontNumbers", fn := fun _ => fun
  | [d1, d2] => { results := [.lit (.bool false)], args := [d1, d2] }
  | _ => none }
def FrontNumbersWrongFalsely : Prop := frontNumbersRow.holds Try.pinned (OpenSpec.ofChange frontNumbersWrong)

/-- 'racewaylaw18.FrontEnds': WHATEVER THE INPUT: true; the input reads as it did. -/
def frontEndsSpec : ChangeSpec := { name := "frontEnds", fn := fun _ => fun
  | [d1, d2, d3] => { results := [.lit (.bool true)], args := [d1, d2, d3] }
  | _ => none }
def frontEndsRow : OpenClaim := { program := "ytonedijkgddepaa", sum := "e1b33e0fc99736a3e44518efff212e3ae71b3eb8f3d824e45573f556ed89dfa7", func := "raceway/racewaylaw18.FrontEnds", spec := "frontEnds", unfollowed := true, recurses := true, apart := false }
def FrontEndsSaid : Prop := frontEndsRow.holds Try.pinned (OpenSpec.ofChange frontEndsSpec)

/-- ITS FALSE NEIGHBOUR: 'it returns false'. Refute it at one input. -/
def frontEndsWrong : ChangeSpec := { name := "frontEnds", fn := fun _ => fun
  | [d1, d2, d3] => { results := [.lit (.bool false)], args := [d1, d2, d3] }
  | _ => none }
def FrontEndsWrongFalsely : Prop := frontEndsRow.holds Try.pinned (OpenSpec.ofChange frontEndsWrong)

/-- 'racewaylaw18.FrontAsks': WHATEVER THE INPUT: true; the input reads as it did. -/
def frontAsksSpec : ChangeSpec := { name := "frontAsks", fn := fun _ => fun
  | [d1, d2] => { results := [.lit (.bool true)], args := [d1, d2] }
  | _ => none }
def frontAsksRow : OpenClaim := { program := "ytonedijkgddepaa", sum := "e1b33e0fc99736a3e44518efff212e3ae71b3eb8f3d824e45573f556ed89dfa7", func := "raceway/racewaylaw18.FrontAsks", spec := "frontAsks", unfollowed := true, recurses := true, apart := false }
def FrontAsksSaid : Prop := frontAsksRow.holds Try.pinned (OpenSpec.ofChange frontAsksSpec)

/-- ITS FALSE NEIGHBOUR: 'it returns false'. Refute it at one input. -/
def frontAsksWrong : ChangeSpec := { name := "frontAsks", fn := fun _ => fun
  | [d1, d2] => { results := [.lit (.bool false)], args := [d1, d2] }
  | _ => none }
def FrontAsksWrongFalsely : Prop := frontAsksRow.holds Try.pinned (OpenSpec.ofChange frontAsksWrong)

/-- 'racewaylaw18.FrontNobody': WHATEVER THE INPUT: true; the input reads as it did. -/
def frontNobodySpec : ChangeSpec := { name := "frontNobody", fn := fun _ => fun
  | [d] => { results := [.lit (.bool true)], args := [d] }
  | _ => none }
def frontNobodyRow : OpenClaim := { program := "ytonedijkgddepaa", sum := "e1b33e0fc99736a3e44518efff212e3ae71b3eb8f3d824e45573f556ed89dfa7", func := "raceway/racewaylaw18.FrontNobody", spec := "frontNobody", unfollowed := true, recurses := true, apart := false }
def FrontNobodySaid : Prop := frontNobodyRow.holds Try.pinned (OpenSpec.ofChange frontNobodySpec)

/-- ITS FALSE NEIGHBOUR: 'it returns false'. Refute it at one input. -/
def frontNobodyWrong : ChangeSpec := { name := "frontNobody", fn := fun _ => fun
  | [d] => { results := [.lit (.bool false)], args := [d] }
  | _ => none }
def FrontNobodyWrongFalsely : Prop := frontNobodyRow.holds Try.pinned (OpenSpec.ofChange frontNobodyWrong)

/- THE SECOND FORM. 'bulk': how many values and letters a reading holds, each counted each time it is reached (what is shared counts as often as it is met; a slice's spare places count too). A statement '..UptoSaid' is the law's where the arguments, and the package variables that the reading takes, are together of bulk at most 1048576: NARROWER than '..Said'. Prove '..Said' where nothing that the law and all that it calls make is longer than what came in: it says more and counts as full. Else prove '..UptoSaid'. A law counts once. -/
mutual
def uptoBulk {H : Type} : DataW H → Nat
  | .lit (.string bytes) => bytes.length + 1
  | .lit _ => 1
  | .nil => 1
  | .ptr d => uptoBulk d + 1
  | .slice elems spare => uptoBulkAll elems + uptoBulkAll spare + 1
  | .agg parts => uptoBulkAll parts + 1
  | .iface _ d => uptoBulk d + 1
  | .map entries => uptoBulkEntries entries + 1
  | .held _ => 1
def uptoBulkAll {H : Type} : List (DataW H) → Nat
  | [] => 0
  | d :: r => uptoBulk d + uptoBulkAll r
def uptoBulkEntries {H : Type} : List (Lit × DataW H) → Nat
  | [] => 0
  | x :: r => uptoBulkEntry x + uptoBulkEntries r
def uptoBulkEntry {H : Type} : Lit × DataW H → Nat
  | (.string bytes, d) => bytes.length + uptoBulk d + 1
  | (_, d) => uptoBulk d + 1
 end
def uptoSmall : (H : Type) → List (DataW H) → Bool := fun _ ds => decide (uptoBulkAll ds ≤ 1048576)
def OpenSpec.upto (s : _root_.Go.ChangeSpec) : _root_.Go.OpenSpec := { _root_.Go.OpenSpec.ofChange s with cond := some uptoSmall }

/-- 'racewaylaw18.FrontNumbers', WHERE WHAT IT READS IS OF BULK AT MOST 1048576: true; the input reads as it did. -/
def frontNumbersUptoRow : OpenClaim := { program := "ytonedijkgddepaa", sum := "e1b33e0fc99736a3e44518efff212e3ae71b3eb8f3d824e45573f556ed89dfa7", func := "raceway/racewaylaw18.FrontNumbers", spec := "frontNumbers", unfollowed := true, recurses := true, apart := false, narrowed := true }
def FrontNumbersUptoSaid : Prop := frontNumbersUptoRow.holds Try.pinned (OpenSpec.upto frontNumbersSpec)

/-- 'racewaylaw18.FrontEnds', WHERE WHAT IT READS IS OF BULK AT MOST 1048576: true; the input reads as it did. -/
def frontEndsUptoRow : OpenClaim := { program := "ytonedijkgddepaa", sum := "e1b33e0fc99736a3e44518efff212e3ae71b3eb8f3d824e45573f556ed89dfa7", func := "raceway/racewaylaw18.FrontEnds", spec := "frontEnds", unfollowed := true, recurses := true, apart := false, narrowed := true }
def FrontEndsUptoSaid : Prop := frontEndsUptoRow.holds Try.pinned (OpenSpec.upto frontEndsSpec)

/-- 'racewaylaw18.FrontAsks', WHERE WHAT IT READS IS OF BULK AT MOST 1048576: true; the input reads as it did. -/
def frontAsksUptoRow : OpenClaim := { program := "ytonedijkgddepaa", sum := "e1b33e0fc99736a3e44518efff212e3ae71b3eb8f3d824e45573f556ed89dfa7", func := "raceway/racewaylaw18.FrontAsks", spec := "frontAsks", unfollowed := true, recurses := true, apart := false, narrowed := true }
def FrontAsksUptoSaid : Prop := frontAsksUptoRow.holds Try.pinned (OpenSpec.upto frontAsksSpec)

/-- 'racewaylaw18.FrontNobody', WHERE WHAT IT READS IS OF BULK AT MOST 1048576: true; the input reads as it did. -/
def frontNobodyUptoRow : OpenClaim := { program := "ytonedijkgddepaa", sum := "e1b33e0fc99736a3e44518efff212e3ae71b3eb8f3d824e45573f556ed89dfa7", func := "raceway/racewaylaw18.FrontNobody", spec := "frontNobody", unfollowed := true, recurses := true, apart := false, narrowed := true }
def FrontNobodyUptoSaid : Prop := frontNobodyUptoRow.holds Try.pinned (OpenSpec.upto frontNobodySpec)

end Rows
end Go.Proofs.Ytonedijkgddepaa
