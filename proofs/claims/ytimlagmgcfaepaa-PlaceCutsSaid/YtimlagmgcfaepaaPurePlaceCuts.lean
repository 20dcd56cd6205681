/- Behind a cut a place is in the ranges just if it was, and is not in what was taken out; taken out twice is taken out once (P4.4, P4.5): the plain statement of PlaceCuts. No conditions. -/
import Derived.Test.YtimlagmgcfaepaaStmPlaceCuts
import Derived.Test.YtimlagmgcfaepaaPModel04
import Derived.Test.YtimlagmgcfaepaaPWorks04
namespace Go.Proofs.Ytimlagmgcfaepaa.Pure
open Go.RowKit Go.Proofs.Ytimlagmgcfaepaa.P Go.Proofs.YtimlagmgcfaepaaW.PrintWords Go.Proofs.YtimlagmgcfaepaaW.PrintLast
set_option linter.unusedVariables false

theorem meetR_zero (x r : Rg) : ((meetR x r).f0 = 0 ∧ (meetR x r).f1 = 0) ↔ ¬ (MayP x ∧ MayP r ∧ MayP ⟨mx x.f0 r.f0, mn x.f1 r.f1⟩) := by
  unfold meetR
  split
  · rename_i h
    constructor
    · rintro ⟨h1, h2⟩
      have h3 := h.2.2
      unfold MayP at h3
      simp only at h1 h2 h3
      omega
    · intro h1
      exact absurd h h1
  · rename_i h
    simp [h]

theorem mxn (a b : Int) : (mx a b = a ∨ mx a b = b) ∧ a ≤ mx a b ∧ b ≤ mx a b ∧ (mn a b = a ∨ mn a b = b) ∧ mn a b ≤ a ∧ mn a b ≤ b := by
  unfold mx mn
  split <;> split <;> omega

/-- What is left of one range: in it are just its places that were not taken out. -/
theorem cutOne_in (r x : Rg) (p : Int) : (∃ y ∈ (cutOne r x).filter mayB, InP y p) ↔ InP x p ∧ ¬ InP r p := by
  have m1 := mxn x.f0 r.f0
  have m2 := mxn x.f1 r.f1
  unfold cutOne
  by_cases hz : (meetR x r).f0 = 0 ∧ (meetR x r).f1 = 0
  · rw [if_pos hz]
    rw [meetR_zero] at hz
    simp only [List.mem_filter, List.mem_singleton, mayB_iff]
    constructor
    · rintro ⟨y, ⟨rfl, h1⟩, h2⟩
      refine ⟨h2, fun h3 => hz ⟨h1, h3.1, ?_⟩⟩
      unfold InP MayP at *
      simp only
      omega
    · rintro ⟨h1, _⟩
      exact ⟨x, ⟨rfl, h1.1⟩, h1⟩
  · rw [if_neg hz]
    rw [meetR_zero, Classical.not_not] at hz
    have e : meetR x r = ⟨mx x.f0 r.f0, mn x.f1 r.f1⟩ := by unfold meetR; rw [if_pos hz]
    rw [e]
    obtain ⟨hx, hr, hm⟩ := hz
    simp only [List.mem_filter, List.mem_cons, List.not_mem_nil, or_false, mayB_iff]
    constructor
    · rintro ⟨y, ⟨rfl | rfl, h1⟩, h2⟩
      · unfold InP MayP at *
        simp only at *
        omega
      · unfold InP MayP at *
        simp only at *
        omega
    · rintro ⟨h1, h2⟩
      by_cases hp : p < mx x.f0 r.f0
      · refine ⟨⟨x.f0, mx x.f0 r.f0⟩, ⟨.inl rfl, ?_⟩, ?_⟩
        · unfold InP MayP at *
          simp only at *
          omega
        · unfold InP MayP at *
          simp only at *
          omega
      · refine ⟨⟨mn x.f1 r.f1, x.f1⟩, ⟨.inr rfl, ?_⟩, ?_⟩
        · unfold InP MayP at *
          simp only at *
          omega
        · unfold InP MayP at *
          simp only at *
          omega
/-- .. each may be, and has nothing in common with what was taken out. -/
theorem cutOne_apart (r x y : Rg) (hy : y ∈ (cutOne r x).filter mayB) : MayP y ∧ (meetR y r).f0 = 0 ∧ (meetR y r).f1 = 0 := by
  have m1 := mxn x.f0 r.f0
  have m2 := mxn x.f1 r.f1
  rw [List.mem_filter, mayB_iff] at hy
  obtain ⟨hy, hm⟩ := hy
  refine ⟨hm, ?_⟩
  rw [meetR_zero]
  rintro ⟨h1, h2, h3⟩
  have n1 := mxn y.f0 r.f0
  have n2 := mxn y.f1 r.f1
  unfold cutOne at hy
  by_cases hz : (meetR x r).f0 = 0 ∧ (meetR x r).f1 = 0
  · rw [if_pos hz] at hy
    rw [meetR_zero] at hz
    rw [List.mem_singleton] at hy
    subst hy
    exact hz ⟨h1, h2, h3⟩
  · rw [if_neg hz] at hy
    rw [meetR_zero, Classical.not_not] at hz
    have e : meetR x r = ⟨mx x.f0 r.f0, mn x.f1 r.f1⟩ := by unfold meetR; rw [if_pos hz]
    rw [e] at hy
    obtain ⟨_, _, hm2⟩ := hz
    rcases List.mem_cons.1 hy with rfl | hy
    · unfold MayP at *
      simp only at *
      omega
    · rw [List.mem_singleton] at hy
      subst hy
      unfold MayP at *
      simp only at *
      omega
theorem cutL_mem (r : Rg) (l : List Rg) (y : Rg) (hy : y ∈ cutL r l) : MayP y ∧ (meetR y r).f0 = 0 ∧ (meetR y r).f1 = 0 := by
  unfold cutL at hy
  rw [List.mem_flatMap] at hy
  obtain ⟨x, _, h⟩ := hy
  exact cutOne_apart r x y h
theorem cutL_in (r : Rg) (l : List Rg) (p : Int) : (∃ y ∈ cutL r l, InP y p) ↔ (∃ x ∈ l, InP x p) ∧ ¬ InP r p := by
  unfold cutL
  constructor
  · rintro ⟨y, hy, hp⟩
    rw [List.mem_flatMap] at hy
    obtain ⟨x, hx, h⟩ := hy
    have := (cutOne_in r x p).1 ⟨y, h, hp⟩
    exact ⟨⟨x, hx, this.1⟩, this.2⟩
  · rintro ⟨⟨x, hx, h1⟩, h2⟩
    obtain ⟨y, hy, hp⟩ := (cutOne_in r x p).2 ⟨h1, h2⟩
    exact ⟨y, List.mem_flatMap.2 ⟨x, hx, hy⟩, hp⟩
/-- What is as it would be behind a cut stays. -/
theorem cutL_same (r : Rg) : ∀ l : List Rg, (∀ y ∈ l, MayP y ∧ (meetR y r).f0 = 0 ∧ (meetR y r).f1 = 0) → cutL r l = l := by
  intro l
  induction l with
  | nil => intro _; rfl
  | cons x l ih =>
    intro h
    obtain ⟨h1, h2⟩ := h x List.mem_cons_self
    have e := ih (fun y hy => h y (List.mem_cons_of_mem _ hy))
    unfold cutL at e ⊢
    rw [List.flatMap_cons, e]
    unfold cutOne
    rw [if_pos h2]
    simp [mayB, h1]

theorem cuts_loop (r : Rg) (l : List Rg) (hl : l.length < 1000) (h : ∀ y ∈ l, MayP y ∧ (meetR y r).f0 = 0 ∧ (meetR y r).f1 = 0) (d : Nat) : ∀ i : Nat, i + d = l.length →
    Ev (fun k => racewaylaw04_PlaceCuts.l0 k l (l.length : Int) (i : Int) r.f0 r.f1) true := by
  induction d with
  | zero =>
    intro i hi
    refine Ev.step (fun k => ?_) (Ev.bind works_ev (Ev.now true))
    simp only [racewaylaw04_PlaceCuts.l0]
    rw [if_neg (by omega)]
  | succ d ih =>
    intro i hi
    have hlt : i < l.length := by omega
    obtain ⟨h1, h2, h3⟩ := h l[i] (List.getElem_mem hlt)
    refine Ev.step (fun k => ?_) (ih (i + 1) (by omega))
    simp only [racewaylaw04_PlaceCuts.l0]
    rw [if_pos (by omega), if_pos (by omega), if_pos (by omega), rd_nat l i hlt, may_f, (mayB_iff _).2 h1]
    simp only [Option.bind_some, if_true]
    rw [meet_f]
    simp only [Option.bind_some]
    rw [if_neg (by simp [h2, h3]), w64_small (by omega) (by omega)]
    rfl

theorem PlaceCuts : racewaylaw04_PlaceCuts.Pure := by
  intro l0 a b p _ _ _ _
  apply Ev.rounds
  unfold racewaylaw04_PlaceCuts.f
  rw [few_f]
  simp only [Option.bind_some]
  generalize hl : l0.take 40 = l
  have hlen : l.length ≤ 40 := by rw [← hl, List.length_take]; omega
  have hc := cutL_len ⟨a, b⟩ l
  have hmem := cutL_mem ⟨a, b⟩ l
  have hin := cutL_in ⟨a, b⟩ l p
  refine Ev.bind (cut_ev ⟨a, b⟩ l (by omega)) ?_
  generalize cutL ⟨a, b⟩ l = c at hc hmem hin
  unfold place_Find.f
  simp only [Option.bind_some]
  have hcut := cut_ev ⟨a, b⟩ c (by omega)
  rw [cutL_same ⟨a, b⟩ c hmem] at hcut
  have hrest : Ev (fun k => (place_Cut.f k c a b).bind fun t => (racewayref04_Same.f k t c).bind fun t2 => if t2 = true then racewaylaw04_PlaceCuts.l0 k c (c.length : Int) 0 a b else some false) true :=
    Ev.bind hcut (Ev.bind (same_ev c (by omega)) (Ev.congr (fun k => if_pos rfl) (cuts_loop ⟨a, b⟩ c (by omega) hmem c.length 0 (by omega))))
  have f1 := findI_nonneg p c
  have f2 := findI_nonneg p l
  have hi := inB_iff ⟨a, b⟩ p
  by_cases h1 : findI p l ≥ 0
  · refine Ev.congr (fun k => if_pos h1) ?_
    have e := inB_f ⟨a, b⟩ p
    simp only at e
    simp only [e, Option.bind_some]
    by_cases h2 : InP ⟨a, b⟩ p
    · have h3 : ¬ findI p c ≥ 0 := fun h => (hin.1 (f1.1 h)).2 h2
      refine Ev.congr (fun k => if_neg ?_) hrest
      rw [hi.2 h2]
      simp [h3]
    · have h3 : findI p c ≥ 0 := f1.2 (hin.2 ⟨f2.1 h1, h2⟩)
      have h4 : inB ⟨a, b⟩ p = false := by
        cases h : inB ⟨a, b⟩ p with
        | false => rfl
        | true => exact absurd (hi.1 h) h2
      refine Ev.congr (fun k => if_neg ?_) hrest
      rw [h4]
      simp [h3]
  · refine Ev.congr (fun k => if_neg h1) ?_
    have h3 : ¬ findI p c ≥ 0 := fun h => h1 (f2.2 (hin.1 (f1.1 h)).1)
    refine Ev.congr (fun k => if_neg ?_) hrest
    simp [h3]
end Go.Proofs.Ytimlagmgcfaepaa.Pure
