/- A row of one as a block; what is the same as itself. No conditions. -/
import Derived.Test.YtonedijkgddepaaRH
import Derived.Test.YtonedijkgddepaaP24
import Derived.Test.YtonedijkgddepaaP25
import Derived.Test.YtonedijkgddepaaP26
import Derived.Test.YtonedijkgddepaaP28
import Derived.Test.YtonedijkgddepaaP29
namespace Go.Proofs.Ytonedijkgddepaa.P
open Go.RowKit Go.Maps Go.Proofs.YtonedijkgddepaaW.PrintWords Go.Proofs.YtonedijkgddepaaW.PrintLast Go.Proofs.YtonedijkgddepaaW.PrintMore
set_option linter.unusedVariables false
set_option linter.unusedSimpArgs false

theorem rowBlk {w0 w : World} {L : List Thing} {α : Type} {d : Kd α} {e m c g : Nat} {x : α} (h : St w0 w (Row d e (.slice (some ⟨g, 0, none⟩) m c) [x] :: L)) (hs : 0 < d.sz) : ∃ cs rs, d.K w x cs ∧ St w0 w (Blk g (cs ++ rs).toArray e :: L) := by
 obtain ⟨S, S1, S2, h1, h2, h3, h4⟩ := h.sts
 obtain ⟨hok, inner, ⟨hl, hv⟩, hr⟩ := h1.1
 rcases hv with ⟨hv, _⟩ | ⟨g', cap, cur, hv, _, hh, hn, _, hc, ht⟩
 ·cases hv
 ·injection hv with hv hm hc2
  injection hv with hv
  injection hv with hv
  subst hv
  have hg : S1 g := hok g rfl
  have hK := d.K_of_M (hr.2 0 x rfl)
  have hi : inner.length = d.sz := by simpa using hl
  rw [Nat.zero_mul, List.drop_zero, List.take_of_length_le (by omega)] at hK
  have e1 : cur = (inner ++ cur.toList.drop d.sz).toArray := by
   have : cur.toList = inner ++ cur.toList.drop d.sz := by
    rw [← ht]
    simp
   rw [← this]
  refine ⟨inner, cur.toList.drop d.sz, hK, h.os, h.tape, h.output, fun k => k = g ∨ S2 k, fun k => k = g, S2, ⟨by rw [← e1]; exact hh, fun _ => Iff.rfl⟩, h2, fun k hk => hk ▸ h3 g hg, fun k => Iff.rfl⟩
theorem C_zero {α : Type} (d : Kd α) (w : World) (A : Option Addr) : d.C w A 0 [] := ⟨rfl, by decide, fun h => absurd h (by decide)⟩
theorem votes_nil : racewayref09_SameVotes.f 3 [] [] = some true := by kernel_rfl
theorem texts_nil : racewayref01_SameTexts.f 3 [] [] = some true := by kernel_rfl
theorem chart_nil : racewayref15_Same.f 5 0 [] 0 [] = some true := by kernel_rfl
theorem reply_nil : racewayref05_SameReply.f 9 0 0 0 [] [] [] 0 0 0 [] [] [] = some true := by kernel_rfl
theorem conv_nil (A : Option Addr) (c : Nat) (W : World) : (convert 28 9 (.slice A 0 c)).run Try.prog W = .ok (.string ⟨#[]⟩) W := Kd.C_string (xs := []) Try.underlying28 Try.underlying5 Try.underlying9 (C_zero _ W A)
end Go.Proofs.Ytonedijkgddepaa.P
