/-
  No cell of these rows narrows 'for every input' (looked for: loops, veiled, ifaces, maps, wideKeys, modest, calm, conditions, laid).
  DERIVED. THE GIVEN ROWS OF THIS SEAT. 4 by the template 'for every input the law returns true; each argument reads behind the call as it read before'; 0 by the template 'total and deterministic' (their statements: YteppmdafdopehaaTotals.lean).
  GIVEN WITH THE SEED: the statements are not yours to turn. If you find one false, say at which input.
  Laid BY PROGRAM, IN A SANDBOX (cutbox-rows.mjs): the forced cells as the released guide's own fill.sh prints them over the translation 7b2b5619e97f1e99… (all of the seat's roots in one cut). By AI agents, Wed Nov 11 2026. No macro, syntax, notation, axiom, sorry.
-/
import Derived.Test.YteppmdafdopehaaChecked
import GoSem.Claim
import GoSem.ClaimJoined
import GoSem.ClaimMapViews
import Derived.JoinedTies
import Derived.KernelRfl
namespace Go.Proofs.Yteppmdafdopehaa
/- THE CELL 'sum', in the pinned program and in every row, IS THE sha256 OF THE DUMP (.gsa) THAT YteppmdafdopehaaProg.lean LOADS. Nothing in Lean hashes anything: it is a label: what it is worth is what the hold of that sum in a sandbox is worth. -/
noncomputable def Try.pinned : Pinned := { name := "yteppmdafdopehaa", sum := "7b2b5619e97f1e99b7296e5e546b540d6be8a9cc107f76b4491a55ca0e4bf53c", checked := Try.checked }
namespace Rows
def none {H : Type} : Left H := { results := [], args := [] }

/-- 'racewaylaw15.ChartMoves': WHATEVER THE INPUT: true; the input reads as it did. -/
def chartMovesSpec : ChangeSpec := { name := "chartMoves", fn := fun _ => fun
  | [d1, d2, d3] => { results := [.lit (.bool true)], args := [d1, d2, d3] }
  | _ => none }
def chartMovesRow : OpenClaim := { program := "yteppmdafdopehaa", sum := "7b2b5619e97f1e99b7296e5e546b540d6be8a9cc107f76b4491a55ca0e4bf53c", func := "raceway/racewaylaw15.ChartMoves", spec := "chartMoves", unfollowed := true, recurses := true, apart := false }
def ChartMovesSaid : Prop := chartMovesRow.holds Try.pinned (OpenSpec.ofChange chartMovesSpec)

/-- ITS FALSE NEIGHBOUR: 'it returns false'. Refute it at one input. -/
def chartMovesWrong : ChangeSpec := { name := "chartMoves", fn := fun _ => fun
  | [d1, d2, d3] => { results := [.lit (.bool false)], args := [d1, d2, d3] }
  | _ => none }
def ChartMovesWrongFalsely : Prop := chartMovesRow.holds Try.pinned (OpenSpec.ofChange chartMovesWrong)

/-- 'racewaylaw15.ChartServes': WHATEVER THE INPUT: true; the input reads as it did. -/
def chartServesSpec : ChangeSpec := { name := "chartServes", fn := fun _ => fun
  | [d1, d2, d3] => { results := [.lit (.bool true)], args := [d1, d2, d3] }
  | _ => none }
def chartServesRow : OpenClaim := { program := "yteppmdafdopehaa", sum := "7b2b5619e97f1e99b7296e5e546b540d6be8a9cc107f76b4491a55ca0e4bf53c", func := "raceway/racewaylaw15.ChartServes", spec := "chartServes", unfollowed := true, recurses := true, apart := false }
def ChartServesSaid : Prop := chartServesRow.holds Try.pinned (OpenSpec.ofChange chartServesSpec)

/-- ITS FALSE NEIGHBOUR: 'it returns false'. Refute it at one input. -/
def chartServesWrong : ChangeSpec := { name := "chartServes", fn := fun _ => fun
  | [d1, d2, d3] => { results := [.lit (.bool false)], args := [d1, d2, d3] }
  | _ => none }
def ChartServesWrongFalsely : Prop := chartServesRow.holds Try.pinned (OpenSpec.ofChange chartServesWrong)

/-- 'racewaylaw15.ChartLoads': WHATEVER THE INPUT: true; the input reads as it did. -/
def chartLoadsSpec : ChangeSpec := { name := "chartLoads", fn := fun _ => fun
  | [d] => { results := [.lit (.bool true)], args := [d] }
  | _ => none }
def chartLoadsRow : OpenClaim := { program := "yteppmdafdopehaa", sum := "7b2b5619e97f1e99b7296e5e546b540d6be8a9cc107f76b4491a55ca0e4bf53c", func := "raceway/racewaylaw15.ChartLoads", spec := "chartLoads", unfollowed := true, recurses := true, apart := false }
def ChartLoadsSaid : Prop := chartLoadsRow.holds Try.pinned (OpenSpec.ofChange chartLoadsSpec)

/-- ITS FALSE NEIGHBOUR: 'it returns false'. Refute it at one input. -/
def chartLoadsWrong : ChangeSpec := { name := "chartLoads", fn := fun _ => fun
  | [d] => { results := [.lit (.bool false)], args := [d] }
  | _ => none }
def ChartLoadsWrongFalsely : Prop := chartLoadsRow.holds Try.pinned (OpenSpec.ofChange chartLoadsWrong)

/-- 'racewaylaw15.ChartBack': WHATEVER THE INPUT: true; the input reads as it did. -/
def chartBackSpec : ChangeSpec := { name := "chartBack", fn := fun _ => fun
  | [d1, d2, d3] => { results := [.lit (.bool true)], args := [d1, d2, d3] }
  | _ => none }
def chartBackRow : OpenClaim := { program := "yteppmdafdopehaa", sum := "7b2b5619e97f1e99b7296e5e546b540d6be8a9cc107f76b4491a55ca0e4bf53c", func := "raceway/racewaylaw15.ChartBack", spec := "chartBack", unfollowed := true, recurses := true, apart := false }
def ChartBackSaid : Prop := chartBackRow.holds Try.pinned (OpenSpec.ofChange chartBackSpec)

/-- ITS FALSE NEIGHBOUR: 'it returns false'. Refute it at one input. -/
def chartBackWrong : ChangeSpec := { name := "chartBack", fn := fun _ => fun
  | [d1, d2, d3] => { results := [.lit (.bool false)], args := [d1, d2, d3] }
  | _ => none }
def ChartBackWrongFalsely : Prop := chartBackRow.holds Try.pinned (OpenSpec.ofChange chartBackWrong)

/- THE SECOND FORM. 'bulk': how many values and letters a reading holds, each counted each time it is reached (what is shared counts as often as it is met; a slice's spare places count too). A statement '..UptoSaid' is the law's where the arguments, and the package variables that the reading takes, are together of bulk at most 1048576: NARROWER than '..Said'. Prove '..Said' where nothing that the law and all that it calls make is longer than what came in: it says more and counts as full. Else prove '..UptoSaid'. A law counts once. -/
mutual
def uptoBulk {H : Type} : DataW H → Nat
  | .lit (.string bytes) => bytes.length + 1
  | .lit _ => 1
  | .nil => 1
  | .ptr d => uptoBulk d + 1
  | .slice elems spare => uptoBulkAll elems + uptoBulkAll spare + 1
  | .agg parts => uptoBulkAll parts + 1
  | .iface _ d => uptoBulk d + 1
  | .map entries => uptoBulkEntries entries + 1
  | .held _ => 1
def uptoBulkAll {H : Type} : List (DataW H) → Nat
  | [] => 0
  | d :: r => uptoBulk d + uptoBulkAll r
def uptoBulkEntries {H : Type} : List (Lit × DataW H) → Nat
  | [] => 0
  | x :: r => uptoBulkEntry x + uptoBulkEntries r
def uptoBulkEntry {H : Type} : Lit × DataW H → Nat
  | (.string bytes, d) => bytes.length + uptoBulk d + 1
  | (_, d) => uptoBulk d + 1
 end
def uptoSmall : (H : Type) → List (DataW H) → Bool := fun _ ds => decide (uptoBulkAll ds ≤ 1048576)
def OpenSpec.upto (s : _root_.Go.ChangeSpec) : _root_.Go.OpenSpec := { _root_.Go.OpenSpec.ofChange s with cond := some uptoSmall }

/-- 'racewaylaw15.ChartMoves', WHERE WHAT IT READS IS OF BULK AT MOST 1048576: true; the input reads as it did. -/
def chartMovesUptoRow : OpenClaim := { program := "yteppmdafdopehaa", sum := "7b2b5619e97f1e99b7296e5e546b540d6be8a9cc107f76b4491a55ca0e4bf53c", func := "raceway/racewaylaw15.ChartMoves", spec := "chartMoves", unfollowed := true, recurses := true, apart := false, narrowed := true }
def ChartMovesUptoSaid : Prop := chartMovesUptoRow.holds Try.pinned (OpenSpec.upto chartMovesSpec)

/-- 'racewaylaw15.ChartServes', WHERE WHAT IT READS IS OF BULK AT MOST 1048576: true; the input reads as it did. -/
def chartServesUptoRow : OpenClaim := { program := "yteppmdafdopehaa", sum := "7b2b5619e97f1e99b7296e5e546b540d6be8a9cc107f76b4491a55ca0e4bf53c", func := "raceway/racewaylaw15.ChartServes", spec := "chartServes", unfollowed := true, recurses := true, apart := false, narrowed := true }
def ChartServesUptoSaid : Prop := chartServesUptoRow.holds Try.pinned (OpenSpec.upto chartServesSpec)

/-- 'racewaylaw15.ChartLoads', WHERE WHAT IT READS IS OF BULK AT MOST 1048576: true; the input reads as it did. -/
def chartLoadsUptoRow : OpenClaim := { program := "yteppmdafdopehaa", sum := "7b2b5619e97f1e99b7296e5e546b540d6be8a9cc107f76b4491a55ca0e4bf53c", func := "raceway/racewaylaw15.ChartLoads", spec := "chartLoads", unfollowed := true, recurses := true, apart := false, narrowed := true }
def ChartLoadsUptoSaid : Prop := chartLoadsUptoRow.holds Try.pinned (OpenSpec.upto chartLoadsSpec)

/-- 'racewaylaw15.ChartBack', WHERE WHAT IT READS IS OF BULK AT MOST 1048576: true; the input reads as it did. -/
def chartBackUptoRow : OpenClaim := { program := "yteppmdafdopehaa", sum := "7b2b5619e97f1e99b7296e5e546b540d6be8a9cc107f76b4491a55ca0e4bf53c", func := "raceway/racewaylaw15.ChartBack", spec := "chartBack", unfollowed := true, recurses := true, apart := false, narrowed := true }
def ChartBackUptoSaid : Prop := chartBackUptoRow.holds Try.pinned (OpenSpec.upto chartBackSpec)

end Rows
end Go.Proofs.Yteppmdafdopehaa
