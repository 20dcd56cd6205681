/- Put together, ranges have just their places, rise, and do not touch; whole they are one, if they cover all (P4.3, P4.4): the plain statement of PlaceJoins. No conditions. -/
import Derived.Test.YtimlagmgcfaepaaStmPlaceJoins
import Derived.Test.YtimlagmgcfaepaaPCover04
import Derived.Test.YtimlagmgcfaepaaPWorks04
namespace Go.Proofs.Ytimlagmgcfaepaa.Pure
open Go.RowKit Go.Proofs.Ytimlagmgcfaepaa.P Go.Proofs.YtimlagmgcfaepaaW.PrintWords Go.Proofs.YtimlagmgcfaepaaW.PrintLast
set_option linter.unusedVariables false

theorem norm_get : ∀ (a : List Rg), NormR a → ∀ i (h : i + 1 < a.reverse.length), (a.reverse[i]'(by omega)).f1 < (a.reverse[i + 1]'h).f0 := by
  intro a
  induction a with
  | nil => intro _ i h; simp at h
  | cons x a ih =>
    intro hn i h
    obtain ⟨_, hna, hg⟩ := hn
    have hl : (x :: a).reverse = a.reverse ++ [x] := List.reverse_cons
    simp only [hl] at h ⊢
    rw [List.length_append, List.length_singleton] at h
    by_cases hi : i + 1 < a.reverse.length
    · rw [List.getElem_append_left (by omega), List.getElem_append_left hi]
      exact ih hna i hi
    · rw [List.getElem_append_left (by omega), List.getElem_append_right (by omega)]
      simp only [List.getElem_singleton]
      exact hg _ (List.mem_reverse.1 (List.getElem_mem _))

theorem joins_loop (l j : List Rg) (hl : j.length < 1000) (hm : ∀ x ∈ j, MayP x) (hg : ∀ i (h : i + 1 < j.length), (j[i]'(by omega)).f1 < (j[i + 1]'h).f0)
    (hend : Ev (fun k => (place_Covers.f k l).bind fun t => if t = true then ((racewayref04_Same.f k j [⟨0, 65536⟩]).bind fun t2 => if t2 = true then (racewaylaw04_works.f k).bind fun t3 => some t3 else some false) else (racewaylaw04_works.f k).bind fun t3 => some t3) true) (d : Nat) :
    ∀ i : Nat, i + d = j.length → Ev (fun k => racewaylaw04_PlaceJoins.l0 k l j j (j.length : Int) (i : Int)) true := by
  induction d with
  | zero =>
    intro i hi
    refine Ev.step (fun k => ?_) hend
    simp only [racewaylaw04_PlaceJoins.l0]
    rw [if_neg (by omega)]
  | succ d ih =>
    intro i hi
    have hlt : i < j.length := by omega
    refine Ev.step (fun k => ?_) (ih (i + 1) (by omega))
    simp only [racewaylaw04_PlaceJoins.l0]
    rw [if_pos (by omega), if_pos (by omega), if_pos (by omega), rd_nat j i hlt, may_f, (mayB_iff _).2 (hm _ (List.getElem_mem hlt))]
    simp only [Option.bind_some, if_true]
    rw [w64_small (i := (i : Int) + 1) (by omega) (by omega)]
    by_cases h0 : (i : Int) > 0
    · obtain ⟨m, rfl⟩ : ∃ m, i = m + 1 := ⟨i - 1, by omega⟩
      have e : (((m + 1 : Nat) : Int) - 1) = (m : Int) := by omega
      rw [if_pos h0, e, w64_small (i := (m : Int)) (by omega) (by omega), if_pos (by omega), if_pos (by omega), rd_nat j m (by omega)]
      have := hg m hlt
      rw [if_neg (by omega)]
      rfl
    · rw [if_neg h0]
      rfl

theorem PlaceJoins : racewaylaw04_PlaceJoins.Pure := by
  intro l0 p _ _
  apply Ev.rounds
  unfold racewaylaw04_PlaceJoins.f
  rw [few_f]
  simp only [Option.bind_some]
  generalize hl : l0.take 40 = l
  have hlen : l.length ≤ 40 := by rw [← hl, List.length_take]; omega
  have hjl := joinL_len l
  obtain ⟨hn, hpt⟩ := joinR_norm l
  have hme : ∀ p, PtP (joinL l) p ↔ PtP (joinR l) p := fun p => by
    unfold PtP joinL
    simp only [List.mem_reverse]
  have hagain : joinL (joinL l) = joinL l := by
    have : joinR (joinL l) = joinR l := joinR_eq _ _ hn (fun p => (hme p).symm)
    unfold joinL at this ⊢
    rw [this]
  refine Ev.bind (join_ev l (by omega)) ?_
  have hmay : ∀ x ∈ joinL l, MayP x := fun x hx => norm_may _ hn x (List.mem_reverse.1 hx)
  have hg : ∀ i (h : i + 1 < (joinL l).length), ((joinL l)[i]'(by omega)).f1 < ((joinL l)[i + 1]'h).f0 := norm_get _ hn
  have hcov : Tiles l → joinL l = [⟨0, 65536⟩] := by
    intro ht
    have : joinR l = [⟨0, 65536⟩] := joinR_eq _ _ ⟨by unfold MayP; decide, trivial, fun y hy => by cases hy⟩ (fun q => by
      rw [pt_cons]
      constructor
      · rintro (h | h)
        · obtain ⟨_, h1, h2⟩ := h
          simp only at h1 h2
          exact tiles_pt l ht q h1 h2
        · exact absurd h (pt_nil q)
      · rintro ⟨x, hx, h1, h2, h3⟩
        refine .inl ⟨by unfold MayP; decide, ?_, ?_⟩
        · unfold MayP at h1; simp only; omega
        · unfold MayP at h1; simp only; omega)
    unfold joinL
    rw [this]
    rfl
  have f1 := findI_nonneg p (joinL l)
  have f2 := findI_nonneg p l
  have fe : findI p (joinL l) ≥ 0 ↔ findI p l ≥ 0 := f1.trans (((hme p).trans (hpt p)).trans f2.symm)
  have hj2 := join_ev (joinL l) (by omega)
  rw [hagain] at hj2
  unfold place_Find.f
  simp only [Option.bind_some]
  refine Ev.congr (fun k => if_neg ?_) ?_
  · by_cases h : findI p l ≥ 0 <;> simp [fe, h]
  · refine Ev.bind hj2 (Ev.bind (same_ev (joinL l) (by omega)) (Ev.congr (fun k => if_pos rfl) ?_))
    refine joins_loop l (joinL l) (by omega) hmay hg ?_ (joinL l).length 0 (by omega)
    refine Ev.bind (covers_ev l (by omega)) ?_
    by_cases ht : Tiles l
    · rw [hcov ht]
      refine Ev.congr (fun k => if_pos (by simpa using ht)) ?_
      exact Ev.bind (same_ev [⟨0, 65536⟩] (by decide)) (Ev.congr (fun k => if_pos rfl) (Ev.bind works_ev (Ev.now _)))
    · exact Ev.congr (fun k => if_neg (by simpa using ht)) (Ev.bind works_ev (Ev.now _))
end Go.Proofs.Ytimlagmgcfaepaa.Pure
