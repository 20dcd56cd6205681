/-
  No cell of these rows narrows 'for every input' (looked for: loops, veiled, ifaces, maps, wideKeys, modest, calm, conditions, laid).
  DERIVED. THE GIVEN ROWS OF THIS SEAT. 7 by the template 'for every input the law returns true; each argument reads behind the call as it read before'; 0 by the template 'total and deterministic' (their statements: YtimlagmgcfaepaaTotals.lean).
  GIVEN WITH THE SEED: the statements are not yours to turn. If you find one false, say at which input.
  Laid BY PROGRAM, IN A SANDBOX (cutbox-rows.mjs): the forced cells as the released guide's own fill.sh prints them over the translation 22e0122c996ae37d… (all of the seat's roots in one cut). By AI agents, Wed Nov 11 2026. No macro, syntax, notation, axiom, sorry.
-/
import Derived.Test.YtimlagmgcfaepaaChecked
import GoSem.Claim
import GoSem.ClaimJoined
import GoSem.ClaimMapViews
import Derived.JoinedTies
import Derived.KernelRfl
namespace Go.Proofs.Ytimlagmgcfaepaa
/- THE CELL 'sum', in the pinned program and in every row, IS THE sha256 OF THE DUMP (.gsa) THAT YtimlagmgcfaepaaProg.lean LOADS. Nothing in Lean hashes anything: it is a label: what it is worth is what the hold of that sum in a sandbox is worth. -/
noncomputable def Try.pinned : Pinned := { name := "ytimlagmgcfaepaa", sum := "22e0122c996ae37d9556d00fb0639b83435d271e93dee7b92d562f3abf998ed7", checked := Try.checked }
namespace Rows
def none {H : Type} : Left H := { results := [], args := [] }

/-- 'racewaylaw04.PlaceOf': WHATEVER THE INPUT: true; the input reads as it did. -/
def placeOfSpec : ChangeSpec := { name := "placeOf", fn := fun _ => fun
  | [d] => { results := [.lit (.bool true)], args := [d] }
  | _ => none }
def placeOfRow : OpenClaim := { program := "ytimlagmgcfaepaa", sum := "22e0122c996ae37d9556d00fb0639b83435d271e93dee7b92d562f3abf998ed7", func := "raceway/racewaylaw04.PlaceOf", spec := "placeOf", apart := false }
def PlaceOfSaid : Prop := placeOfRow.holds Try.pinned (OpenSpec.ofChange placeOfSpec)

/-- ITS FALSE NEIGHBOUR: 'it returns false'. Refute it at one input. -/
def placeOfWrong : ChangeSpec := { name := "placeOf", fn := fun _ => fun
  | [d] => { results := [.lit (.bool false)], args := [d] }
  | _ => none }
def PlaceOfWrongFalsely : Prop := placeOfRow.holds Try.pinned (OpenSpec.ofChange placeOfWrong)

/-- 'racewaylaw04.PlaceRanges': WHATEVER THE INPUT: true; the input reads as it did. -/
def placeRangesSpec : ChangeSpec := { name := "placeRanges", fn := fun _ => fun
  | [d1, d2, d3] => { results := [.lit (.bool true)], args := [d1, d2, d3] }
  | _ => none }
def placeRangesRow : OpenClaim := { program := "ytimlagmgcfaepaa", sum := "22e0122c996ae37d9556d00fb0639b83435d271e93dee7b92d562f3abf998ed7", func := "raceway/racewaylaw04.PlaceRanges", spec := "placeRanges", apart := false }
def PlaceRangesSaid : Prop := placeRangesRow.holds Try.pinned (OpenSpec.ofChange placeRangesSpec)

/-- ITS FALSE NEIGHBOUR: 'it returns false'. Refute it at one input. -/
def placeRangesWrong : ChangeSpec := { name := "placeRanges", fn := fun _ => fun
  | [d1, d2, d3] => { results := [.lit (.bool false)], args := [d1, d2, d3] }
  | _ => none }
def PlaceRangesWrongFalsely : Prop := placeRangesRow.holds Try.pinned (OpenSpec.ofChange placeRangesWrong)

/-- 'racewaylaw04.PlaceCuts': WHATEVER THE INPUT: true; the input reads as it did. -/
def placeCutsSpec : ChangeSpec := { name := "placeCuts", fn := fun _ => fun
  | [d1, d2, d3] => { results := [.lit (.bool true)], args := [d1, d2, d3] }
  | _ => none }
def placeCutsRow : OpenClaim := { program := "ytimlagmgcfaepaa", sum := "22e0122c996ae37d9556d00fb0639b83435d271e93dee7b92d562f3abf998ed7", func := "raceway/racewaylaw04.PlaceCuts", spec := "placeCuts", unfollowed := true, recurses := true, apart := false }
def PlaceCutsSaid : Prop := placeCutsRow.holds Try.pinned (OpenSpec.ofChange placeCutsSpec)

/-- ITS FALSE NEIGHBOUR: 'it returns false'. Refute it at one input. -/
def placeCutsWrong : ChangeSpec := { name := "placeCuts", fn := fun _ => fun
  | [d1, d2, d3] => { results := [.lit (.bool false)], args := [d1, d2, d3] }
  | _ => none }
def PlaceCutsWrongFalsely : Prop := placeCutsRow.holds Try.pinned (OpenSpec.ofChange placeCutsWrong)

/-- 'racewaylaw04.PlaceParts': WHATEVER THE INPUT: true; the input reads as it did. -/
def placePartsSpec : ChangeSpec := { name := "placeParts", fn := fun _ => fun
  | [d1, d2, d3] => { results := [.lit (.bool true)], args := [d1, d2, d3] }
  | _ => none }
def placePartsRow : OpenClaim := { program := "ytimlagmgcfaepaa", sum := "22e0122c996ae37d9556d00fb0639b83435d271e93dee7b92d562f3abf998ed7", func := "raceway/racewaylaw04.PlaceParts", spec := "placeParts", unfollowed := true, recurses := true, apart := false }
def PlacePartsSaid : Prop := placePartsRow.holds Try.pinned (OpenSpec.ofChange placePartsSpec)

/-- ITS FALSE NEIGHBOUR: 'it returns false'. Refute it at one input. -/
def placePartsWrong : ChangeSpec := { name := "placeParts", fn := fun _ => fun
  | [d1, d2, d3] => { results := [.lit (.bool false)], args := [d1, d2, d3] }
  | _ => none }
def PlacePartsWrongFalsely : Prop := placePartsRow.holds Try.pinned (OpenSpec.ofChange placePartsWrong)

/-- 'racewaylaw04.PlaceCovers': WHATEVER THE INPUT: true; the input reads as it did. -/
def placeCoversSpec : ChangeSpec := { name := "placeCovers", fn := fun _ => fun
  | [d1, d2] => { results := [.lit (.bool true)], args := [d1, d2] }
  | _ => none }
def placeCoversRow : OpenClaim := { program := "ytimlagmgcfaepaa", sum := "22e0122c996ae37d9556d00fb0639b83435d271e93dee7b92d562f3abf998ed7", func := "raceway/racewaylaw04.PlaceCovers", spec := "placeCovers", unfollowed := true, recurses := true, apart := false }
def PlaceCoversSaid : Prop := placeCoversRow.holds Try.pinned (OpenSpec.ofChange placeCoversSpec)

/-- ITS FALSE NEIGHBOUR: 'it returns false'. Refute it at one input. -/
def placeCoversWrong : ChangeSpec := { name := "placeCovers", fn := fun _ => fun
  | [d1, d2] => { results := [.lit (.bool false)], args := [d1, d2] }
  | _ => none }
def PlaceCoversWrongFalsely : Prop := placeCoversRow.holds Try.pinned (OpenSpec.ofChange placeCoversWrong)

/-- 'racewaylaw04.PlaceJoins': WHATEVER THE INPUT: true; the input reads as it did. -/
def placeJoinsSpec : ChangeSpec := { name := "placeJoins", fn := fun _ => fun
  | [d1, d2] => { results := [.lit (.bool true)], args := [d1, d2] }
  | _ => none }
def placeJoinsRow : OpenClaim := { program := "ytimlagmgcfaepaa", sum := "22e0122c996ae37d9556d00fb0639b83435d271e93dee7b92d562f3abf998ed7", func := "raceway/racewaylaw04.PlaceJoins", spec := "placeJoins", unfollowed := true, recurses := true, apart := false }
def PlaceJoinsSaid : Prop := placeJoinsRow.holds Try.pinned (OpenSpec.ofChange placeJoinsSpec)

/-- ITS FALSE NEIGHBOUR: 'it returns false'. Refute it at one input. -/
def placeJoinsWrong : ChangeSpec := { name := "placeJoins", fn := fun _ => fun
  | [d1, d2] => { results := [.lit (.bool false)], args := [d1, d2] }
  | _ => none }
def PlaceJoinsWrongFalsely : Prop := placeJoinsRow.holds Try.pinned (OpenSpec.ofChange placeJoinsWrong)

/-- 'racewaylaw04.PlaceLists': WHATEVER THE INPUT: true; the input reads as it did. -/
def placeListsSpec : ChangeSpec := { name := "placeLists", fn := fun _ => fun
  | [d1, d2, d3] => { results := [.lit (.bool true)], args := [d1, d2, d3] }
  | _ => none }
def placeListsRow : OpenClaim := { program := "ytimlagmgcfaepaa", sum := "22e0122c996ae37d9556d00fb0639b83435d271e93dee7b92d562f3abf998ed7", func := "raceway/racewaylaw04.PlaceLists", spec := "placeLists", unfollowed := true, recurses := true, apart := false }
def PlaceListsSaid : Prop := placeListsRow.holds Try.pinned (OpenSpec.ofChange placeListsSpec)

/-- ITS FALSE NEIGHBOUR: 'it returns false'. Refute it at one input. -/
def placeListsWrong : ChangeSpec := { name := "placeLists", fn := fun _ => fun
  | [d1, d2, d3] => { results := [.lit (.bool false)], args := [d1, d2, d3] }
  | _ => none }
def PlaceListsWrongFalsely : Prop := placeListsRow.holds Try.pinned (OpenSpec.ofChange placeListsWrong)

/- THE SECOND FORM. 'bulk': how many values and letters a reading holds, each counted each time it is reached (what is shared counts as often as it is met; a slice's spare places count too). A statement '..UptoSaid' is the law's where the arguments, and the package variables that the reading takes, are together of bulk at most 1048576: NARROWER than '..Said'. Prove '..Said' where nothing that the law and all that it calls make is longer than what came in: it says more and counts as full. Else prove '..UptoSaid'. A law counts once. -/
mutual
def uptoBulk {H : Type} : DataW H → Nat
  | .lit (.string bytes) => bytes.length + 1
  | .lit _ => 1
  | .nil => 1
  | .ptr d => uptoBulk d + 1
  | .slice elems spare => uptoBulkAll elems + uptoBulkAll spare + 1
  | .agg parts => uptoBulkAll parts + 1
  | .iface _ d => uptoBulk d + 1
  | .map entries => uptoBulkEntries entries + 1
  | .held _ => 1
def uptoBulkAll {H : Type} : List (DataW H) → Nat
  | [] => 0
  | d :: r => uptoBulk d + uptoBulkAll r
def uptoBulkEntries {H : Type} : List (Lit × DataW H) → Nat
  | [] => 0
  | x :: r => uptoBulkEntry x + uptoBulkEntries r
def uptoBulkEntry {H : Type} : Lit × DataW H → Nat
  | (.string bytes, d) => bytes.length + uptoBulk d + 1
  | (_, d) => uptoBulk d + 1
 end
def uptoSmall : (H : Type) → List (DataW H) → Bool := fun _ ds => decide (uptoBulkAll ds ≤ 1048576)
def OpenSpec.upto (s : _root_.Go.ChangeSpec) : _root_.Go.OpenSpec := { _root_.Go.OpenSpec.ofChange s with cond := some uptoSmall }

/-- 'racewaylaw04.PlaceOf', WHERE WHAT IT READS IS OF BULK AT MOST 1048576: true; the input reads as it did. -/
def placeOfUptoRow : OpenClaim := { program := "ytimlagmgcfaepaa", sum := "22e0122c996ae37d9556d00fb0639b83435d271e93dee7b92d562f3abf998ed7", func := "raceway/racewaylaw04.PlaceOf", spec := "placeOf", apart := false, narrowed := true }
def PlaceOfUptoSaid : Prop := placeOfUptoRow.holds Try.pinned (OpenSpec.upto placeOfSpec)

/-- 'racewaylaw04.PlaceRanges', WHERE WHAT IT READS IS OF BULK AT MOST 1048576: true; the input reads as it did. -/
def placeRangesUptoRow : OpenClaim := { program := "ytimlagmgcfaepaa", sum := "22e0122c996ae37d9556d00fb0639b83435d271e93dee7b92d562f3abf998ed7", func := "raceway/racewaylaw04.PlaceRanges", spec := "placeRanges", apart := false, narrowed := true }
def PlaceRangesUptoSaid : Prop := placeRangesUptoRow.holds Try.pinned (OpenSpec.upto placeRangesSpec)

/-- 'racewaylaw04.PlaceCuts', WHERE WHAT IT READS IS OF BULK AT MOST 1048576: true; the input reads as it did. -/
def placeCutsUptoRow : OpenClaim := { program := "ytimlagmgcfaepaa", sum := "22e0122c996ae37d9556d00fb0639b83435d271e93dee7b92d562f3abf998ed7", func := "raceway/racewaylaw04.PlaceCuts", spec := "placeCuts", unfollowed := true, recurses := true, apart := false, narrowed := true }
def PlaceCutsUptoSaid : Prop := placeCutsUptoRow.holds Try.pinned (OpenSpec.upto placeCutsSpec)

/-- 'racewaylaw04.PlaceParts', WHERE WHAT IT READS IS OF BULK AT MOST 1048576: true; the input reads as it did. -/
def placePartsUptoRow : OpenClaim := { program := "ytimlagmgcfaepaa", sum := "22e0122c996ae37d9556d00fb0639b83435d271e93dee7b92d562f3abf998ed7", func := "raceway/racewaylaw04.PlaceParts", spec := "placeParts", unfollowed := true, recurses := true, apart := false, narrowed := true }
def PlacePartsUptoSaid : Prop := placePartsUptoRow.holds Try.pinned (OpenSpec.upto placePartsSpec)

/-- 'racewaylaw04.PlaceCovers', WHERE WHAT IT READS IS OF BULK AT MOST 1048576: true; the input reads as it did. -/
def placeCoversUptoRow : OpenClaim := { program := "ytimlagmgcfaepaa", sum := "22e0122c996ae37d9556d00fb0639b83435d271e93dee7b92d562f3abf998ed7", func := "raceway/racewaylaw04.PlaceCovers", spec := "placeCovers", unfollowed := true, recurses := true, apart := false, narrowed := true }
def PlaceCoversUptoSaid : Prop := placeCoversUptoRow.holds Try.pinned (OpenSpec.upto placeCoversSpec)

/-- 'racewaylaw04.PlaceJoins', WHERE WHAT IT READS IS OF BULK AT MOST 1048576: true; the input reads as it did. -/
def placeJoinsUptoRow : OpenClaim := { program := "ytimlagmgcfaepaa", sum := "22e0122c996ae37d9556d00fb0639b83435d271e93dee7b92d562f3abf998ed7", func := "raceway/racewaylaw04.PlaceJoins", spec := "placeJoins", unfollowed := true, recurses := true, apart := false, narrowed := true }
def PlaceJoinsUptoSaid : Prop := placeJoinsUptoRow.holds Try.pinned (OpenSpec.upto placeJoinsSpec)

/-- 'racewaylaw04.PlaceLists', WHERE WHAT IT READS IS OF BULK AT MOST 1048576: true; the input reads as it did. -/
def placeListsUptoRow : OpenClaim := { program := "ytimlagmgcfaepaa", sum := "22e0122c996ae37d9556d00fb0639b83435d271e93dee7b92d562f3abf998ed7", func := "raceway/racewaylaw04.PlaceLists", spec := "placeLists", unfollowed := true, recurses := true, apart := false, narrowed := true }
def PlaceListsUptoSaid : Prop := placeListsUptoRow.holds Try.pinned (OpenSpec.upto placeListsSpec)

end Rows
end Go.Proofs.Ytimlagmgcfaepaa
