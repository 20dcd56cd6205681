/- The plain law: who serves what after a move, and what a move that changes nothing leaves. No program in sight. -/
import Derived.Test.YteppmdafdopehaaPMove15
namespace Go.Proofs.Yteppmdafdopehaa.P.C4
open Go.RowKit Go.Proofs.YteppmdafdopehaaW.PrintWords Go.Proofs.YteppmdafdopehaaW.PrintLast Go.Proofs.YteppmdafdopehaaW.PrintMore
set_option linter.unusedVariables false

theorem chOK_nfr : ∀ (l : List Pc) (x q : Int) (o : List Pc), chOK x q l = true → NFr x (rv o) → (∀ z, (rv o).head? = some z → z.s = q) → NFr 65536 (rv (o ++ l)) := by
  intro l
  induction l with
  | nil =>
    intro x q o h hn _
    have hx : x = 65536 := by simpa [chOK] using h
    subst hx
    rw [List.append_nil]
    exact hn
  | cons p l ih =>
    intro x q o h hn hq
    simp only [chOK, Bool.and_eq_true, decide_eq_true_eq] at h
    obtain ⟨h1, h2, h3, h4, h5, h6, h7⟩ := h
    have e : o ++ p :: l = (o ++ [p]) ++ l := by simp
    rw [e]
    refine ih p.f0.f1 p.f1 (o ++ [p]) h7 ?_ (fun z hz => ?_)
    · rw [rv_snoc]
      unfold NFr
      refine ⟨rfl, by show p.f0.f0 < p.f0.f1; omega, by show NFr p.f0.f0 (rv o); rw [h1]; exact hn, fun z hz => ?_⟩
      have := hq z hz
      show z.s ≠ p.f1
      omega
    · rw [rv_snoc] at hz
      simp only [List.head?_cons, Option.some.injEq] at hz
      subst hz
      rfl
theorem ofC_out (p : Int) (h : p < 0 ∨ 65536 ≤ p) : ∀ (l : List Pc), ofC p l = 0 := by
  intro l
  induction l with
  | nil => rfl
  | cons y l ih =>
    unfold ofC
    rw [if_neg (fun e => by unfold InP MayP at e; omega)]
    exact ih
theorem move_of (r : Rg) (tt : Int) (hr : MayP r) (l : List Pc) (hl : chOK 0 0 l = true) (hL : chOK 0 0 (moveGo r tt l [] false).1 = true) (p : Int) :
    ofC p (moveGo r tt l [] false).1 = if InP r p then tt else ofC p l := by
  by_cases hp : 0 ≤ p ∧ p < 65536
  · obtain ⟨m1, m2, m3⟩ := move_inv r tt hr l 0 0 [] false hl (by omega) (by rw [rv_nil]; rfl)
    obtain ⟨⟨y, hy, hyp⟩, ho⟩ := of_one l 0 0 hl (by omega) p hp.1 hp.2
    have hat := (m2 p (if inR r p then tt else y.f1)).2 (Or.inr ⟨y, hy, hyp, rfl⟩)
    obtain ⟨z, hz, z1, z2, z3⟩ := hat
    unfold rv at hz
    obtain ⟨w, hw, rfl⟩ := List.mem_map.1 (List.mem_reverse.1 hz)
    have hw2 := (of_one _ 0 0 hL (by omega) p hp.1 hp.2).2 w hw ⟨z1, z2⟩
    rw [hw2, ho y hy hyp]
    have z3' : w.f1 = if inR r p then tt else y.f1 := z3
    rw [z3']
    by_cases hin : inR r p
    · rw [if_pos hin, if_pos ⟨hr, hin.1, hin.2⟩]
    · rw [if_neg hin, if_neg (fun e => hin ⟨e.2.1, e.2.2⟩)]
  · rw [ofC_out p (by omega), ofC_out p (by omega), if_neg (fun e => by have h1 := e.1; have h2 := e.2; unfold MayP at h1; omega)]
theorem move_still (r : Rg) (tt : Int) (hr : MayP r) (l : List Pc) (hl : chOK 0 0 l = true) (hch : (moveGo r tt l [] false).2 = false) : (moveGo r tt l [] false).1 = l := by
  obtain ⟨m1, m2, m3⟩ := move_inv r tt hr l 0 0 [] false hl (by omega) (by rw [rv_nil]; rfl)
  have hn := chOK_nfr l 0 0 [] hl (by rw [rv_nil]; rfl) (fun z hz => by rw [rv_nil] at hz; cases hz)
  rw [List.nil_append] at hn
  refine rv_inj _ _ (nfr_uniq _ _ 65536 m1 hn (fun p t => ?_))
  have hno : ∀ y ∈ l, ∀ p, inR y.f0 p → inR r p → y.f1 = tt := by
    intro y hy p h1 h2
    refine Classical.byContradiction fun hne => ?_
    have := m3.2 (Or.inr ⟨y, hy, p, h1, h2, hne⟩)
    rw [hch] at this
    cases this
  rw [m2 p t]
  constructor
  · rintro (h | ⟨y, hy, h1, h2⟩)
    · rw [rv_nil] at h; exact absurd h (at_nil _ _)
    · refine ⟨toPn y, by unfold rv; exact List.mem_reverse.2 (List.mem_map.2 ⟨y, hy, rfl⟩), h1.1, h1.2, ?_⟩
      show y.f1 = t
      by_cases hin : inR r p
      · rw [if_pos hin] at h2
        rw [hno y hy p h1 hin, h2]
      · rw [if_neg hin] at h2
        exact h2
  · rintro ⟨z, hz, z1, z2, z3⟩
    unfold rv at hz
    obtain ⟨w, hw, rfl⟩ := List.mem_map.1 (List.mem_reverse.1 hz)
    refine Or.inr ⟨w, hw, ⟨z1, z2⟩, ?_⟩
    have z3' : w.f1 = t := z3
    by_cases hin : inR r p
    · rw [if_pos hin, ← hno w hw p ⟨z1, z2⟩ hin, z3']
    · rw [if_neg hin, z3']
/-- What the law asks of a move that succeeds. -/
theorem serves_step (ep : Int) (l : List Pc) (r : Rg) (tt : Int) (hm : mayC ep l = true) (hep : ep ≤ 1000) (hL : (mvC ep l r tt).2.2 = 0 → mayC (mvC ep l r tt).1 (mvC ep l r tt).2.1 = true) (h0 : (mvC ep l r tt).2.2 = 0) :
    ∃ ch : Bool, (mvC ep l r tt).1 = (if ch = true then ep + 1 else ep) ∧ (ch = false → (mvC ep l r tt).2.1 = l) ∧ ∀ p, ofC p (mvC ep l r tt).2.1 = if InP r p then tt else ofC p l := by
  have hL0 := hL h0
  unfold mvC at h0 hL0 ⊢
  by_cases hc : mayC ep l = true ∧ P.mayB r = true ∧ 1 ≤ tt ∧ tt ≤ 6
  · rw [if_pos hc] at h0 hL0 ⊢
    obtain ⟨_, hr, ht⟩ := hc
    have hr' := (may_p r).1 hr
    unfold mayC at hm
    simp only [Bool.and_eq_true, decide_eq_true_eq] at hm
    obtain ⟨e1, e2, hch⟩ := hm
    have k1 := move_of r tt hr' l hch
    have k2 := move_still r tt hr' l hch
    generalize moveGo r tt l [] false = X at h0 hL0 k1 k2 ⊢
    unfold moveEnd at h0 hL0 ⊢
    by_cases hx : X.2 = false
    · rw [if_pos hx] at hL0 ⊢
      unfold mayC at hL0
      simp only [Bool.and_eq_true, decide_eq_true_eq] at hL0
      exact ⟨false, by simp, fun _ => k2 hx, fun p => k1 hL0.2.2 p⟩
    · rw [if_neg hx, if_neg (show ¬ ep = 1099511627776 by omega)] at hL0 ⊢
      unfold mayC at hL0
      simp only [Bool.and_eq_true, decide_eq_true_eq] at hL0
      refine ⟨true, ?_, (fun h => by cases h), fun p => k1 hL0.2.2 p⟩
      rw [w64_small (by omega) (by omega)]
      simp
  · rw [if_neg hc] at h0
    simp at h0
theorem serves_err (ep : Int) (l : List Pc) (r : Rg) (tt : Int) (hm : mayC ep l = true) (hep : ep ≤ 1000) (h0 : ¬ (mvC ep l r tt).2.2 = 0) : ¬ (MayP r ∧ 1 ≤ tt ∧ tt ≤ 6) := by
  rintro ⟨h1, h2⟩
  apply h0
  unfold mvC
  rw [if_pos ⟨hm, (may_p r).2 h1, h2⟩]
  unfold moveEnd
  split
  · rfl
  · rw [if_neg (by omega)]
theorem tiles_of (l : List Pc) (h : chOK 0 0 l = true) : Tiles (l.map (·.f0)) := by
  have := may_iff l
  rw [h] at this
  simp only [Bool.and_eq_true, decide_eq_true_eq] at this
  exact this.2
end Go.Proofs.Yteppmdafdopehaa.P.C4
