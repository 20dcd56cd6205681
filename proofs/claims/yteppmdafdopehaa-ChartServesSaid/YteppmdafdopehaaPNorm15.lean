/- Charts in plain words: pieces one behind the other, no two alike side by side; two such charts of the same places are the same. No conditions. -/
import Derived.Lib.SplitLaws
namespace Go.Proofs.Yteppmdafdopehaa.P
set_option linter.unusedVariables false
structure Pn where
  lo : Int
  hi : Int
  s : Int
/-- shard s serves place p -/
def At (l : List Pn) (p s : Int) : Prop := ∃ y ∈ l, y.lo ≤ p ∧ p < y.hi ∧ y.s = s
/-- from 0 to b, the last piece first -/
def NFr : Int → List Pn → Prop
  | b, [] => b = 0
  | b, y :: r => y.hi = b ∧ y.lo < b ∧ NFr y.lo r ∧ (∀ z, r.head? = some z → z.s ≠ y.s)
/-- a piece put behind -/
def putP (lo hi s : Int) : List Pn → List Pn
  | [] => [⟨lo, hi, s⟩]
  | y :: r => if y.s = s then ⟨y.lo, hi, s⟩ :: r else ⟨lo, hi, s⟩ :: y :: r
theorem putP_cons (lo hi s : Int) (y : Pn) (r : List Pn) : putP lo hi s (y :: r) = if y.s = s then ⟨y.lo, hi, s⟩ :: r else ⟨lo, hi, s⟩ :: y :: r := rfl
theorem at_nil (p s : Int) : ¬ At [] p s := by rintro ⟨y, hy, _⟩; cases hy
theorem at_cons (y : Pn) (l : List Pn) (p s : Int) : At (y :: l) p s ↔ (y.lo ≤ p ∧ p < y.hi ∧ y.s = s) ∨ At l p s := by
  constructor
  · rintro ⟨z, hz, h⟩
    rcases List.mem_cons.1 hz with rfl | hz
    · exact Or.inl h
    · exact Or.inr ⟨z, hz, h⟩
  · rintro (h | ⟨z, hz, h⟩)
    · exact ⟨y, List.mem_cons_self, h⟩
    · exact ⟨z, List.mem_cons_of_mem _ hz, h⟩
theorem nfr_nonneg : ∀ (l : List Pn) (b : Int), NFr b l → 0 ≤ b := by
  intro l
  induction l with
  | nil => intro b h; unfold NFr at h; omega
  | cons y r ih => intro b h; unfold NFr at h; have := ih _ h.2.2.1; omega
theorem nfr_at : ∀ (l : List Pn) (b p s : Int), NFr b l → At l p s → 0 ≤ p ∧ p < b := by
  intro l
  induction l with
  | nil => intro b p s h ha; exact absurd ha (at_nil _ _)
  | cons y r ih =>
    intro b p s h ha
    unfold NFr at h
    have h0 := nfr_nonneg _ _ h.2.2.1
    rcases (at_cons _ _ _ _).1 ha with ha | ha
    · omega
    · have := ih _ _ _ h.2.2.1 ha; omega
theorem nfr_one : ∀ (l : List Pn) (b p s t : Int), NFr b l → At l p s → At l p t → s = t := by
  intro l
  induction l with
  | nil => intro b p s t h ha; exact absurd ha (at_nil _ _)
  | cons y r ih =>
    intro b p s t h ha hb
    unfold NFr at h
    rcases (at_cons _ _ _ _).1 ha with ha | ha <;> rcases (at_cons _ _ _ _).1 hb with hb | hb
    · omega
    · have := nfr_at _ _ _ _ h.2.2.1 hb; omega
    · have := nfr_at _ _ _ _ h.2.2.1 ha; omega
    · exact ih _ _ _ _ h.2.2.1 ha hb
theorem put_nfr (l : List Pn) (a b s : Int) (h : NFr a l) (hab : a < b) : NFr b (putP a b s l) := by
  cases l with
  | nil => unfold NFr at h; unfold putP NFr; exact ⟨rfl, hab, by unfold NFr; exact h, by simp⟩
  | cons y r =>
    rw [putP_cons]
    by_cases hs : y.s = s
    · rw [if_pos hs]
      unfold NFr at h ⊢
      exact ⟨rfl, by show y.lo < b; omega, h.2.2.1, fun z hz => by have := h.2.2.2 z hz; show z.s ≠ s; omega⟩
    · rw [if_neg hs]
      unfold NFr
      refine ⟨rfl, hab, h, fun z hz => ?_⟩
      have : y = z := by simpa using hz
      subst this
      exact hs
theorem put_at (l : List Pn) (a b s p t : Int) (h : NFr a l) (hab : a < b) : At (putP a b s l) p t ↔ At l p t ∨ (a ≤ p ∧ p < b ∧ s = t) := by
  cases l with
  | nil =>
    unfold putP
    rw [at_cons]
    constructor
    · rintro (h | h)
      · exact Or.inr h
      · exact absurd h (at_nil _ _)
    · rintro (h | h)
      · exact absurd h (at_nil _ _)
      · exact Or.inl h
  | cons y r =>
    unfold NFr at h
    rw [putP_cons]
    by_cases hs : y.s = s
    · rw [if_pos hs, at_cons, at_cons]
      show (y.lo ≤ p ∧ p < b ∧ s = t) ∨ _ ↔ _
      constructor
      · rintro (h1 | h1)
        · by_cases hp : p < y.hi
          · exact Or.inl (Or.inl ⟨h1.1, hp, by omega⟩)
          · exact Or.inr ⟨by omega, h1.2⟩
        · exact Or.inl (Or.inr h1)
      · rintro ((h1 | h1) | h1)
        · exact Or.inl ⟨h1.1, by omega, by omega⟩
        · exact Or.inr h1
        · exact Or.inl ⟨by omega, h1.2⟩
    · rw [if_neg hs, at_cons]
      show (a ≤ p ∧ p < b ∧ s = t) ∨ _ ↔ _
      exact Or.comm
/-- charts of the same places are the same -/
theorem nfr_uniq : ∀ (l1 l2 : List Pn) (b : Int), NFr b l1 → NFr b l2 → (∀ p s, At l1 p s ↔ At l2 p s) → l1 = l2 := by
  intro l1
  induction l1 with
  | nil =>
    intro l2 b h1 h2 h
    cases l2 with
    | nil => rfl
    | cons y r =>
      unfold NFr at h1 h2
      have := nfr_nonneg _ _ h2.2.2.1
      omega
  | cons x r1 ih =>
    intro l2 b h1 h2 h
    cases l2 with
    | nil =>
      unfold NFr at h1 h2
      have := nfr_nonneg _ _ h1.2.2.1
      omega
    | cons y r2 =>
      have g1 := h1
      have g2 := h2
      unfold NFr at h1 h2
      have es : x.s = y.s := by
        have hx : At (x :: r1) (b - 1) x.s := (at_cons _ _ _ _).2 (Or.inl ⟨by omega, by omega, rfl⟩)
        have hy : At (x :: r1) (b - 1) y.s := (h _ _).2 ((at_cons _ _ _ _).2 (Or.inl ⟨by omega, by omega, rfl⟩))
        exact nfr_one _ _ _ _ _ g1 hx hy
      -- a piece that reaches farther down holds what the other one's next piece holds
      have key : ∀ (u v : Pn) (ru rv : List Pn), NFr b (u :: ru) → NFr b (v :: rv) → (∀ p s, At (u :: ru) p s ↔ At (v :: rv) p s) → u.s = v.s → ¬ u.lo < v.lo := by
        intro u v ru rv hu hv hh he hlt
        have hu' := hu
        unfold NFr at hu hv
        cases rv with
        | nil =>
          have h3 := hv.2.2.1
          unfold NFr at h3
          have := nfr_nonneg _ _ hu.2.2.1
          omega
        | cons z rz =>
          have h3 := hv.2.2.1
          have h4 := hv.2.2.2 z rfl
          unfold NFr at h3
          have hz : At (v :: z :: rz) (v.lo - 1) z.s := (at_cons _ _ _ _).2 (Or.inr ((at_cons _ _ _ _).2 (Or.inl ⟨by omega, by omega, rfl⟩)))
          have hu1 : At (u :: ru) (v.lo - 1) u.s := (at_cons _ _ _ _).2 (Or.inl ⟨by omega, by omega, rfl⟩)
          have := nfr_one _ _ _ _ _ hu' hu1 ((hh _ _).2 hz)
          omega
      have k1 := key x y r1 r2 g1 g2 h es
      have k2 := key y x r2 r1 g2 g1 (fun p s => (h p s).symm) es.symm
      have elo : x.lo = y.lo := by omega
      have exy : x = y := by
        cases x; cases y
        simp only [Pn.mk.injEq]
        exact ⟨elo, by have := h1.1; have := h2.1; simp at *; omega, es⟩
      subst exy
      congr 1
      refine ih r2 x.lo h1.2.2.1 h2.2.2.1 (fun p s => ?_)
      constructor
      · intro hp
        have hb := nfr_at _ _ _ _ h1.2.2.1 hp
        rcases (at_cons _ _ _ _).1 ((h p s).1 ((at_cons _ _ _ _).2 (Or.inr hp))) with h5 | h5
        · omega
        · exact h5
      · intro hp
        have hb := nfr_at _ _ _ _ h2.2.2.1 hp
        rcases (at_cons _ _ _ _).1 ((h p s).2 ((at_cons _ _ _ _).2 (Or.inr hp))) with h5 | h5
        · omega
        · exact h5
end Go.Proofs.Yteppmdafdopehaa.P
