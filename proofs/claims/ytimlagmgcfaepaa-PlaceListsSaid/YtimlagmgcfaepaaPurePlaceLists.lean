/- Of any ranges a place is found, all is covered or not, one is taken out, and they are put together, as the document says (P4.3, P4.4): the plain statement of PlaceLists. No conditions. -/
import Derived.Test.YtimlagmgcfaepaaStmPlaceLists
import Derived.Test.YtimlagmgcfaepaaPRef04
import Derived.Test.YtimlagmgcfaepaaPWorks04
namespace Go.Proofs.Ytimlagmgcfaepaa.Pure
open Go.RowKit Go.Proofs.Ytimlagmgcfaepaa.P Go.Proofs.YtimlagmgcfaepaaW.PrintWords Go.Proofs.YtimlagmgcfaepaaW.PrintLast
theorem PlaceLists : racewaylaw04_PlaceLists.Pure := by
  intro l0 a b p _ _ _ _
  apply Ev.rounds
  unfold racewaylaw04_PlaceLists.f
  rw [few_f]
  simp only [Option.bind_some]
  rw [few_f]
  simp only [Option.bind_some]
  have e2 : (l0.take 40).take 40 = l0.take 40 := by rw [List.take_take]; simp
  rw [e2]
  generalize hl : l0.take 40 = l
  have hlen : l.length ≤ 40 := by rw [← hl, List.length_take]; omega
  have hc := cutL_len ⟨a, b⟩ l
  have hj := joinL_len l
  unfold place_Find.f
  simp only [Option.bind_some]
  refine Ev.bind (rfind_ev p l (by omega)) ?_
  refine Ev.congr (fun k => if_pos rfl) ?_
  refine Ev.bind (covers_ev l (by omega)) (Ev.bind (rcovers_ev l (by omega)) ?_)
  refine Ev.congr (fun k => if_pos (by simp)) ?_
  refine Ev.bind (cut_ev ⟨a, b⟩ l (by omega)) (Ev.bind (rcut_ev ⟨a, b⟩ l (by omega)) (Ev.bind (same_ev _ (by omega)) ?_))
  refine Ev.congr (fun k => if_pos rfl) ?_
  refine Ev.bind (join_ev l (by omega)) (Ev.bind (rjoin_ev l (by omega)) (Ev.bind (same_ev _ (by omega)) ?_))
  refine Ev.congr (fun k => if_pos rfl) ?_
  refine Ev.bind (same_ev l (by omega)) (Ev.congr (fun k => if_pos rfl) (Ev.bind works_ev (Ev.now _)))
end Go.Proofs.Ytimlagmgcfaepaa.Pure
