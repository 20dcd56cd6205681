/- What is parted is put together again; each place is in the one part or the other (P4.2, P4.5): the plain statement of PlaceParts. No conditions. -/
import Derived.Test.YtimlagmgcfaepaaStmPlaceParts
import Derived.Test.YtimlagmgcfaepaaPJoin04
import Derived.Test.YtimlagmgcfaepaaPWorks04
namespace Go.Proofs.Ytimlagmgcfaepaa.Pure
open Go.RowKit Go.Proofs.Ytimlagmgcfaepaa.P Go.Proofs.YtimlagmgcfaepaaW.PrintWords Go.Proofs.YtimlagmgcfaepaaW.PrintLast
set_option linter.unusedVariables false

theorem joined (a t b : Int) (hm : 0 ≤ a ∧ a < b ∧ b ≤ 65536) (h1 : a < t) (h2 : t < b) : joinL [⟨t, b⟩, ⟨a, t⟩] = [⟨a, b⟩] := by
  have : joinR [⟨t, b⟩, ⟨a, t⟩] = [⟨a, b⟩] := joinR_eq _ _ ⟨hm, trivial, fun y hy => by cases hy⟩ (fun p => by
    rw [pt_cons, pt_cons, pt_cons]
    have hn := pt_nil p
    constructor
    · rintro (⟨_, h3, h4⟩ | h)
      · simp only at h3 h4
        by_cases c : p < t
        · exact .inr (.inl ⟨by unfold MayP; simp only; omega, h3, c⟩)
        · exact .inl ⟨by unfold MayP; simp only; omega, by simp only; omega, h4⟩
      · exact absurd h hn
    · rintro (⟨_, h3, h4⟩ | ⟨_, h3, h4⟩ | h)
      · simp only at h3 h4
        exact .inl ⟨hm, by simp only; omega, by simp only; omega⟩
      · simp only at h3 h4
        exact .inl ⟨hm, by simp only; omega, by simp only; omega⟩
      · exact absurd h hn)
  unfold joinL
  rw [this]
  rfl
theorem mayN (a b : Int) : place_May.f a b = some (decide (0 ≤ a ∧ a < b ∧ b ≤ 65536)) := may_f ⟨a, b⟩
theorem inN (a b p : Int) : place_In.f a b p = some (decide ((0 ≤ a ∧ a < b ∧ b ≤ 65536) ∧ a ≤ p ∧ p < b)) := by
  have h1 := inB_f ⟨a, b⟩ p
  have h2 := inB_iff ⟨a, b⟩ p
  rw [show place_In.f a b p = some (inB ⟨a, b⟩ p) from h1]
  congr 1
  cases h : inB ⟨a, b⟩ p
  · rw [h] at h2
    exact (decide_eq_false (fun h3 => by have := h2.2 h3; cases this)).symm
  · rw [h] at h2
    exact (decide_eq_true (h2.1 rfl)).symm
theorem meetN (a t b : Int) : place_Meet.f a t t b = some (0, 0) := by
  unfold place_Meet.f
  rw [mayN, mayN, mayN]
  simp only [Option.bind_some, decide_eq_true_eq]
  by_cases h1 : 0 ≤ a ∧ a < t ∧ t ≤ 65536
  · rw [if_pos h1]
    by_cases h2 : 0 ≤ t ∧ t < b ∧ b ≤ 65536
    · rw [if_pos h2, if_neg (by unfold mx mn; split <;> split <;> omega)]
    · rw [if_neg h2]
  · rw [if_neg h1]
theorem PlaceParts : racewaylaw04_PlaceParts.Pure := by
  intro a b t p _ _ _ _
  apply Ev.rounds
  unfold racewaylaw04_PlaceParts.f
  by_cases hs : (0 ≤ a ∧ a < b ∧ b ≤ 65536) ∧ a < t ∧ t < b
  · have h1 : place_Split.f a b t = some (a, t, t, b, 0) := by
      unfold place_Split.f
      rw [mayN]
      simp only [Option.bind_some, decide_eq_true_eq]
      rw [if_pos hs.1, if_neg (by omega), if_neg (by omega)]
    have hj := join_ev [⟨t, b⟩, ⟨a, t⟩] (by simp)
    rw [joined a t b hs.1 hs.2.1 hs.2.2] at hj
    rw [h1]
    simp only [Option.bind_some, if_true]
    rw [inN a b p, inN a t p, inN t b p]
    simp only [Option.bind_some]
    have hsame := same_ev [(⟨a, b⟩ : Rg)] (by simp)
    have tail : Ev (fun k => (place_Join.f k ([⟨t, b⟩, ⟨a, t⟩] : List Rg)).bind fun t170 => (racewayref04_Same.f k t170 [⟨a, b⟩]).bind fun t176 => if t176 = true then (place_Meet.f a t t b).bind fun bt177 => if (bt177.1 == 0 && (bt177.2 == 0)) = true then (racewaylaw04_works.f k).bind fun t179 => some t179 else some false else some false) true := by
      refine Ev.bind hj (Ev.bind hsame (Ev.congr (fun k => if_pos rfl) ?_))
      rw [meetN]
      simp only [Option.bind_some, beq_self_eq_true, Bool.and_self, if_true]
      exact Ev.bind works_ev (Ev.now _)
    by_cases q2 : (0 ≤ a ∧ a < t ∧ t ≤ 65536) ∧ a ≤ p ∧ p < t
    · have q1 : (0 ≤ a ∧ a < b ∧ b ≤ 65536) ∧ a ≤ p ∧ p < b := by omega
      have q3 : ¬ ((0 ≤ t ∧ t < b ∧ b ≤ 65536) ∧ t ≤ p ∧ p < b) := by omega
      rw [decide_eq_true q1, decide_eq_true q2, decide_eq_false q3]
      exact tail
    · by_cases q3 : (0 ≤ t ∧ t < b ∧ b ≤ 65536) ∧ t ≤ p ∧ p < b
      · have q1 : (0 ≤ a ∧ a < b ∧ b ≤ 65536) ∧ a ≤ p ∧ p < b := by omega
        rw [decide_eq_true q1, decide_eq_false q2, decide_eq_true q3]
        exact tail
      · have q1 : ¬ ((0 ≤ a ∧ a < b ∧ b ≤ 65536) ∧ a ≤ p ∧ p < b) := by omega
        rw [decide_eq_false q1, decide_eq_false q2, decide_eq_false q3]
        exact tail
  · have h1 : place_Split.f a b t = some (0, 0, 0, 0, 2) := by
      unfold place_Split.f
      rw [mayN]
      simp only [Option.bind_some, decide_eq_true_eq]
      by_cases h2 : 0 ≤ a ∧ a < b ∧ b ≤ 65536
      · rw [if_pos h2]
        by_cases h3 : t ≤ a
        · rw [if_pos h3]
        · rw [if_neg h3, if_pos (by omega)]
      · rw [if_neg h2]
    rw [h1]
    simp only [Option.bind_some]
    simp only [show ¬ ((2 : Int) = 0) by decide, if_false, inN a b t, Option.bind_some]
    by_cases q : (0 ≤ a ∧ a < b ∧ b ≤ 65536) ∧ a ≤ t ∧ t < b
    · rw [decide_eq_true q]
      have : ¬ t > a := by omega
      simp only [this, if_false, if_true, beq_self_eq_true, Bool.and_self]
      exact Ev.bind works_ev (Ev.now _)
    · rw [decide_eq_false q]
      simp only [beq_self_eq_true, Bool.and_self, if_true]
      exact Ev.bind works_ev (Ev.now _)
end Go.Proofs.Ytimlagmgcfaepaa.Pure
