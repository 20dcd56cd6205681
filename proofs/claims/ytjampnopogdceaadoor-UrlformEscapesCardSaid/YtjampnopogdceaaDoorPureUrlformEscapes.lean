/- The plain law UrlformEscapes: any bytes are escaped, and any text is read, as the document says. No conditions. -/
import Derived.Test.YtjampnopogdceaaDoorStmUrlformEscapes
import Derived.Test.YtjampnopogdceaaDoorPUn26
import Derived.Test.YtjampnopogdceaaDoorPSame26
namespace Go.Proofs.YtjampnopogdceaaDoor.Pure
open Go.RowKit Go.Lib Go.Proofs.YtjampnopogdceaaDoor.P Go.Proofs.YtjampnopogdceaaDoorW.PrintWords Go.Proofs.YtjampnopogdceaaDoorW.PrintLast

theorem UrlformEscapes : racewaylaw26_UrlformEscapes.Pure := by
  intro a0 h0
  obtain ⟨K, hK⟩ : ∃ K : Nat, 5000 ≤ K := ⟨5000, Nat.le_refl _⟩
  refine ⟨K, ?_⟩
  obtain ⟨a, ea, la, _⟩ := cutTo a0 1000
  unfold racewaylaw26_UrlformEscapes.f
  rw [show ((1000 : Nat) : Int) = 1000 from rfl] at ea
  have m0 := mn_ok a0 1000
  rw [show ((1000 : Nat) : Int) = 1000 from rfl] at m0
  have hsz : (ofL a).size ≤ 1000 := by rw [ofL_size]; exact la
  have hu : urlform_Unescape.f (ofL a) = some (ofL (un a 0 []).1, ((un a 0 []).2.1 : Int), ((un a 0 []).2.2 : Int)) := by
    unfold urlform_Unescape.f
    rw [if_pos (by omega), ofL_list]
  have hr : racewayref26_Unescape.f K (ofL a) = some (ofL (un a 0 []).1, ((un a 0 []).2.1 : Int), ((un a 0 []).2.2 : Int)) := by
    rw [refUn_f (ofL a) (by omega) (by omega), ofL_list]
  have he : urlform_Escape.f (ofL a) = some (ofL (esc a)) := by
    unfold urlform_Escape.f
    rw [if_pos (by omega), ofL_list]
  have hs : racewayref26_Escape.f (ofL a) = some (ofL (esc a)) := by
    unfold racewayref26_Escape.f
    rw [if_pos (by omega), ofL_list]
  rw [if_pos m0.1, if_pos m0.2, ea, hu, hr, he, hs]
  simp only [Option.bind_some]
  rw [if_pos trivial, if_pos trivial, if_pos trivial, if_pos trivial, worksAt (by omega)]
  rfl

end Go.Proofs.YtjampnopogdceaaDoor.Pure
