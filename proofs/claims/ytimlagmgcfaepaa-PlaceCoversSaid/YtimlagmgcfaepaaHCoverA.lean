/- The plain law of PlaceCovers: all places parted at any places are covered; without one range, or with one twice, they are not. No program in sight. No conditions. -/
import Derived.Test.YtimlagmgcfaepaaPCover04
import Derived.Test.YtimlagmgcfaepaaPWorks04
namespace Go.Proofs.Ytimlagmgcfaepaa.P
open Go.RowKit Go.Proofs.YtimlagmgcfaepaaW.PrintWords Go.Proofs.YtimlagmgcfaepaaW.PrintLast Go.Proofs.YtimlagmgcfaepaaW.PrintMore
set_option linter.unusedVariables false
set_option linter.unusedSimpArgs false

theorem cnt_append (p : Int) (a b : List Rg) : cnt p (a ++ b) = cnt p a + cnt p b := List.countP_append
theorem split_at {l : List Rg} {k : Nat} (hk : k < l.length) (z : Rg) : l = l.take k ++ l.getD k z :: l.drop (k + 1) := by
  have h1 : l.getD k z = l[k] := by rw [List.getD_eq_getElem?_getD, List.getElem?_eq_getElem hk]; rfl
  rw [h1]
  have := List.take_append_drop k l
  conv => lhs; rw [← this]
  rw [List.drop_eq_getElem_cons hk]
theorem set_at {l : List Rg} {k : Nat} (hk : k < l.length) (a : Rg) : l.set k a = l.take k ++ a :: l.drop (k + 1) := by
  rw [List.set_eq_take_append_cons_drop, if_pos hk]
theorem start_tiles : Tiles [(⟨0, 65536⟩ : Rg)] := by
  rw [tiles_iff]
  refine ⟨fun x hx => ?_, fun p h0 h1 => ?_⟩
  · rw [List.mem_singleton] at hx; subst hx; unfold MayP; decide
  · rw [cnt_cons, if_pos ⟨by unfold MayP; decide, h0, h1⟩]; rfl
theorem part_tiles {l : List Rg} (h : Tiles l) {k : Nat} (hk : k < l.length) (z : Rg) {p : Int} (hp : (l.getD k z).f0 < p) (hp2 : p < (l.getD k z).f1) :
    Tiles (l.set k ⟨(l.getD k z).f0, p⟩ ++ [⟨p, (l.getD k z).f1⟩]) := by
  rw [tiles_iff] at h ⊢
  obtain ⟨hm, hc⟩ := h
  have hs := split_at hk z
  obtain ⟨x, hx⟩ : ∃ x, x = l.getD k z := ⟨_, rfl⟩
  rw [← hx] at hs hp hp2 ⊢
  have hmx : MayP x := hm x (by rw [hs]; simp)
  rw [set_at hk]
  refine ⟨fun y hy => ?_, fun q h0 h1 => ?_⟩
  · unfold MayP at hmx
    simp only [List.mem_append, List.mem_cons, List.mem_singleton, List.not_mem_nil, or_false] at hy
    rcases hy with (hy | rfl | hy) | rfl
    · exact hm y (by rw [hs]; exact List.mem_append_left _ hy)
    · unfold MayP; simp only; omega
    · exact hm y (by rw [hs]; exact List.mem_append_right _ (List.mem_cons_of_mem _ hy))
    · unfold MayP; simp only; omega
  · have h2 := hc q h0 h1
    rw [hs] at h2
    rw [cnt_append, cnt_append, cnt_cons, cnt_cons]
    rw [cnt_append, cnt_cons] at h2
    have hz : cnt q ([] : List Rg) = 0 := rfl
    rw [hz]
    unfold MayP at hmx
    by_cases c : InP x q
    · rw [if_pos c] at h2
      obtain ⟨_, c1, c2⟩ := c
      by_cases d : q < p
      · have e1 : InP ⟨x.f0, p⟩ q := ⟨by unfold MayP; simp only; omega, c1, d⟩
        have e2 : ¬ InP ⟨p, x.f1⟩ q := fun e => by have := e.2.1; simp only at this; omega
        rw [if_pos e1, if_neg e2]
        omega
      · have e1 : ¬ InP ⟨x.f0, p⟩ q := fun e => d e.2.2
        have e2 : InP ⟨p, x.f1⟩ q := ⟨by unfold MayP; simp only; omega, by simp only; omega, c2⟩
        rw [if_neg e1, if_pos e2]
        omega
    · rw [if_neg c] at h2
      rw [if_neg (fun e : InP ⟨x.f0, p⟩ q => c ⟨by unfold MayP; omega, e.2.1, by have := e.2.2; simp only at this; omega⟩), if_neg (fun e : InP ⟨p, x.f1⟩ q => c ⟨by unfold MayP; omega, by have := e.2.1; simp only at this; omega, e.2.2⟩)]
      omega
theorem no_find {l : List Rg} (h : Tiles l) {p : Int} (hf : findI p l < 0) : ¬ (0 ≤ p ∧ p < 65536) := fun ⟨h0, h1⟩ => by
  have := (findI_nonneg p l).2 (tiles_pt l h p h0 h1)
  omega
theorem less_not {l : List Rg} (h : Tiles l) {i : Nat} (hi : i < l.length) (z : Rg) : ¬ Tiles (l.take i ++ l.drop (i + 1)) ∧ ¬ Tiles (l.take i ++ l.drop (i + 1) ++ [l.getD i z, l.getD i z]) ∧ Tiles (l.take i ++ l.drop (i + 1) ++ [l.getD i z]) := by
  rw [tiles_iff] at h
  obtain ⟨hm, hc⟩ := h
  have hs := split_at hi z
  obtain ⟨x, hx⟩ : ∃ x, x = l.getD i z := ⟨_, rfl⟩
  rw [← hx] at hs ⊢
  have hmx : MayP x := hm x (by rw [hs]; simp)
  have hin : InP x x.f0 := by unfold MayP at hmx; exact ⟨by unfold MayP; omega, Int.le_refl _, by omega⟩
  have h0 : 0 ≤ x.f0 ∧ x.f0 < 65536 := by unfold MayP at hmx; omega
  have h1 := hc x.f0 h0.1 h0.2
  rw [hs, cnt_append, cnt_cons, if_pos hin] at h1
  have hz : cnt x.f0 ([] : List Rg) = 0 := rfl
  refine ⟨fun ht => ?_, fun ht => ?_, ?_⟩
  · have h2 := ((tiles_iff _).1 ht).2 x.f0 h0.1 h0.2
    rw [cnt_append] at h2
    omega
  · have h2 := ((tiles_iff _).1 ht).2 x.f0 h0.1 h0.2
    rw [cnt_append, cnt_append, cnt_cons, cnt_cons, if_pos hin, hz] at h2
    omega
  · rw [tiles_iff]
    refine ⟨fun y hy => ?_, fun q g0 g1 => ?_⟩
    · simp only [List.mem_append, List.mem_singleton] at hy
      rcases hy with (hy | hy) | rfl
      · exact hm y (by rw [hs]; exact List.mem_append_left _ hy)
      · exact hm y (by rw [hs]; exact List.mem_append_right _ (List.mem_cons_of_mem _ hy))
      · exact hmx
    · have h2 := hc q g0 g1
      rw [hs, cnt_append, cnt_cons] at h2
      have hz2 : cnt q ([] : List Rg) = 0 := rfl
      rw [cnt_append, cnt_append, cnt_cons, hz2]
      omega
theorem coversC (A : Option Addr) (c : Nat) (l : List Rg) (w : World) (hr : Kd.C k26 w A l.length l) (hc : l.length ≤ c) (hl : l.length < 1000) :
    Calls Try.prog 26 #[.slice A l.length c] w fun e w' => e = .returned (.bool (decide (Tiles l))) ∧ Below w.heap.size w w' := by
  obtain ⟨k, hk⟩ := Ev.rounds (covers_ev l hl)
  exact place_Covers.calls k A c l _ w hr hc hk
end Go.Proofs.Ytimlagmgcfaepaa.P
