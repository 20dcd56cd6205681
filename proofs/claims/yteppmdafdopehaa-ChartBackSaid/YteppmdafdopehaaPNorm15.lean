/- Charts in plain words: pieces one behind the other, no two alike side by side; two such charts of the same places are the same. No conditions. -/
import Derived.Lib.SplitLaws
namespace Go.Proofs.Yteppmdafdopehaa.P
set_option linter.unusedVariables false
structure Pn where
  lo : Int
  hi : Int
  s : Int
/-- shard s serves place p -/
def At (l : List Pn) (p s : Int) : Prop := ∃ y ∈ l, y.lo ≤ p ∧ p < y.hi ∧ y.s = s
/-- from 0 to b, the last piece first -/
def NFr : Int → List Pn → Prop
  | b, [] => b = 0
  | b, y :: r => y.hi = b ∧ y.lo < b ∧ NFr y.lo r ∧ (∀ z, r.head? = some z → z.s ≠ y.s)
/-- a piece put behind -/
def putP (lo hi s : Int) : List Pn → List Pn
  | [] => [⟨lo, hi, s⟩]
  | y :: r => if y.s = s then ⟨y.lo, hi, s⟩ :: r else ⟨lo, hi, s⟩ :: y :: r
theorem putP_cons (lo hi s : Int) (y : Pn) (r : List Pn) : putP lo hi s (y :: r) = if y.s = s then ⟨y.lo, hi, s⟩ :: r else ⟨lo, hi, s⟩ :: y :: r := rfl
theorem at_nil (p s : Int) : ¬ At [] p s := by rintro ⟨y, hy, _⟩; cases hy
theorem at_cons (y : Pn) (l : List Pn) (p s : Int) : At (y :: l) p s ↔ (y.lo ≤ p ∧ p < y.hi ∧ y.s = s) ∨ At l p s := by
  constructor
  · rintro ⟨z, hz, h⟩
    rcases List.mem_cons.1 hz with rfl | hz
    · exact Or.inl h
    · exact Or.inr ⟨z, hz, h⟩
  · rintro (h | ⟨z, hz, h⟩)
    · exact ⟨y, List.mem_cons_self, h⟩
    · exact ⟨z, List.mem_cons_of_mem _ hz, h⟩
theorem put_nfr (l : List Pn) (a b s : Int) (h : NFr a l) (hab : a < b) : NFr b (putP a b s l) := by
  cases l with
  | nil => unfold NFr at h; unfold putP NFr; exact ⟨rfl, hab, by unfold NFr; exact h, by simp⟩
  | cons y r =>
    rw [putP_cons]
    by_cases hs : y.s = s
    · rw [if_pos hs]
      unfold NFr at h ⊢
      exact ⟨rfl, by show y.lo < b; omega, h.2.2.1, fun z hz => by have := h.2.2.2 z hz; show z.s ≠ s; omega⟩
    · rw [if_neg hs]
      unfold NFr
      refine ⟨rfl, hab, h, fun z hz => ?_⟩
      have : y = z := by simpa using hz
      subst this
      exact hs
theorem put_at (l : List Pn) (a b s p t : Int) (h : NFr a l) (hab : a < b) : At (putP a b s l) p t ↔ At l p t ∨ (a ≤ p ∧ p < b ∧ s = t) := by
  cases l with
  | nil =>
    unfold putP
    rw [at_cons]
    constructor
    · rintro (h | h)
      · exact Or.inr h
      · exact absurd h (at_nil _ _)
    · rintro (h | h)
      · exact absurd h (at_nil _ _)
      · exact Or.inl h
  | cons y r =>
    unfold NFr at h
    rw [putP_cons]
    by_cases hs : y.s = s
    · rw [if_pos hs, at_cons, at_cons]
      show (y.lo ≤ p ∧ p < b ∧ s = t) ∨ _ ↔ _
      constructor
      · rintro (h1 | h1)
        · by_cases hp : p < y.hi
          · exact Or.inl (Or.inl ⟨h1.1, hp, by omega⟩)
          · exact Or.inr ⟨by omega, h1.2⟩
        · exact Or.inl (Or.inr h1)
      · rintro ((h1 | h1) | h1)
        · exact Or.inl ⟨h1.1, by omega, by omega⟩
        · exact Or.inr h1
        · exact Or.inl ⟨by omega, h1.2⟩
    · rw [if_neg hs, at_cons]
      show (a ≤ p ∧ p < b ∧ s = t) ∨ _ ↔ _
      exact Or.comm
end Go.Proofs.Yteppmdafdopehaa.P
