/- Rows of whole numbers: sorted and compacted; indices at an address that came in. No conditions. -/
import Derived.Shelf.SortM.Plain
import Derived.Shelf.SortM.SortNone
import Derived.Shelf.SlicesG.CompactI
import Derived.Lib.SlicesCompact
import Derived.Test.YtonedijkgddepaaGB
import Derived.Shelf.SlGeneric
import Derived.Ground.SlgmProg
import Derived.Ground.SlgnProg
import Derived.Test.YtonedijkgddepaaProg
namespace Go.Proofs.Ytonedijkgddepaa.P
open Go.RowKit Go.Maps Go.Proofs.YtonedijkgddepaaW.PrintWords Go.Proofs.YtonedijkgddepaaW.PrintLast Go.Proofs.YtonedijkgddepaaW.PrintMore
set_option linter.unusedVariables false
set_option linter.unusedSimpArgs false
section
variable {P : Program} {ops : Array Oper} {rest : List Oper} {o : Oper} {a : Act} {Q : Exit → Act → World → Prop} {W : World}
theorem index_at (hgd : o.guard = none) (t : TypeId) (x ix : Operand) (hop : o.op = .indexAddr t x ix) {ad : Addr} {len cap sz : Nat} {k : IntKind} {i : Int} (hx : a.eval x = .slice (some ad) len cap) (hix : a.eval ix = .int k i) (h0 : 0 ≤ i) (h1 : i < len) (hu : P.underlying t = some (.slice (P.elem t))) (hs : (P.info? (P.elem t)).map (·.size) = some sz)
  (h : wpList P ops Q rest (a.put o.dst (.pointer (some (ad.add (i.toNat * sz))))) W) : wpList P ops Q (o :: rest) a W := by
 refine wpList_plain hgd fun K hK => ?_
 have hr : (Instr.indexAt t (.slice (some ad) len cap) (.int k i)).run P W = .ok (.pointer (some (ad.add (i.toNat * sz)))) W := by
  obtain ⟨inf, hi, hsz⟩ := Option.map_eq_some_iff.1 hs
  rw [run_indexAt_slice _ _ _ _ _ _ _ hu, if_pos ⟨h0, h1⟩]
  simp only [sizeOf, typeInfo]
  simp [hi, hsz, Result.andThen]
 unfold Oper.wp execOp
 rw [hop]
 simp only [hx, hix]
 simp [hr]
 exact hK _ _ h
end
end Go.Proofs.Ytonedijkgddepaa.P
