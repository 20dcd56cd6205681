/- Any text has the document's place (P4.1): the plain statement of PlaceOf. No conditions. -/
import Derived.Test.YtimlagmgcfaepaaStmPlaceOf
import Derived.Test.YtimlagmgcfaepaaPWorks04
namespace Go.Proofs.Ytimlagmgcfaepaa.Pure
open Go.RowKit Go.Proofs.Ytimlagmgcfaepaa.P Go.Proofs.YtimlagmgcfaepaaW.PrintWords Go.Proofs.YtimlagmgcfaepaaW.PrintLast
theorem PlaceOf : racewaylaw04_PlaceOf.Pure := by
  intro s hs
  apply Ev.rounds
  unfold racewaylaw04_PlaceOf.f
  have h0 : 0 ≤ mn (s.size : Int) 3000 := by unfold mn; split <;> omega
  have h1 : mn (s.size : Int) 3000 ≤ (s.size : Int) := by unfold mn; split <;> omega
  simp only [if_pos h0, if_pos h1]
  generalize he : s.extract 0 (mn (s.size : Int) 3000).toNat = t
  have ht : t.size ≤ 140737488351232 := by rw [← he, ByteArray.size_extract]; omega
  refine Ev.bind (of_ev t ht) (Ev.bind (ref_ev t ht) ?_)
  have hp := plc_lt t
  simp only [if_true]
  rw [show (fun (n : Nat) => if (plc t : Int) ≥ 0 then if (plc t : Int) < 65536 then (racewaylaw04_works.f n).bind fun t119 => some t119 else some false else some false) = fun n => (racewaylaw04_works.f n).bind fun t119 => some t119 from funext fun n => by rw [if_pos (by omega), if_pos (by omega)]]
  exact Ev.bind works_ev (Ev.now _)
end Go.Proofs.Ytimlagmgcfaepaa.Pure
