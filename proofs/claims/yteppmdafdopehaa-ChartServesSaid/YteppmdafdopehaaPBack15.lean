/- The plain law: a chart written by the code, and read again; a move leaves a chart that may be. No program in sight; charts of some hundred pieces. -/
import Derived.Test.YteppmdafdopehaaPLoad15
import Derived.Test.YteppmdafdopehaaPMove15
import Derived.Test.YteppmdafdopehaaP24
import Derived.Test.YteppmdafdopehaaP25
import Derived.Test.YteppmdafdopehaaP26
namespace Go.Proofs.Yteppmdafdopehaa.P.C4
open Go.RowKit Go.Proofs.YteppmdafdopehaaW.PrintWords Go.Proofs.YteppmdafdopehaaW.PrintLast Go.Proofs.YteppmdafdopehaaW.PrintMore
set_option linter.unusedVariables false
def lastS (m : List Pn) : Int := (m.head?.map (·.s)).getD 0
theorem nfr_chOK (n : Nat) : ∀ (o : List Pc), o.length = n → ∀ (b : Int) (rest : List Pc), NFr b (rv o) → (∀ y ∈ o, 1 ≤ y.f1 ∧ y.f1 ≤ 6) → b ≤ 65536 → chOK b (lastS (rv o)) rest = true → chOK 0 0 (o ++ rest) = true := by
  induction n with
  | zero =>
    intro o ho b rest hn hs hb hr
    obtain rfl := List.eq_nil_of_length_eq_zero ho
    rw [rv_nil] at hn hr
    unfold NFr at hn
    subst hn
    exact hr
  | succ n ih =>
    intro o ho b rest hn hs hb hr
    rcases List.eq_nil_or_concat o with rfl | ⟨o', y, rfl⟩
    · simp at ho
    · rw [List.concat_eq_append] at *
      rw [rv_snoc] at hn hr
      unfold NFr at hn
      obtain ⟨h1, h2, h3, h4⟩ := hn
      have h1' : y.f0.f1 = b := h1
      have h2' : y.f0.f0 < b := h2
      have hy := hs y (by simp)
      rw [List.append_assoc]
      refine ih o' (by simp at ho; exact ho) y.f0.f0 ([y] ++ rest) h3 (fun z hz => hs z (by simp [hz])) (by omega) ?_
      have hq : y.f1 ≠ lastS (rv o') := by
        unfold lastS
        cases he : (rv o').head? with
        | none => simp only [Option.map_none, Option.getD_none]; omega
        | some z =>
          simp only [Option.map_some, Option.getD_some]
          have := h4 z he
          exact fun e => this e.symm
      show chOK y.f0.f0 (lastS (rv o')) (y :: rest) = true
      have hr' : chOK y.f0.f1 y.f1 rest = true := by rw [h1']; exact hr
      simp only [chOK, hr', Bool.and_true, Bool.and_eq_true, decide_eq_true_eq]
      exact ⟨trivial, by omega, by omega, hy.1, hy.2, hq⟩
theorem nfr_mem : ∀ (l : List Pn) (b : Int), NFr b l → ∀ y ∈ l, y.lo < y.hi := by
  intro l
  induction l with
  | nil => intro b _ y hy; cases hy
  | cons z r ih =>
    intro b h y hy
    unfold NFr at h
    rcases List.mem_cons.1 hy with rfl | hy
    · have := h.1; have := h.2.1; omega
    · exact ih _ h.2.2.1 y hy
theorem rv_mem {o : List Pc} {y : Pc} (h : y ∈ o) : toPn y ∈ rv o := by unfold rv; exact List.mem_reverse.2 (List.mem_map.2 ⟨y, h, rfl⟩)
theorem move_may (ep : Int) (l : List Pc) (r : Rg) (tt : Int) (hm : mayC ep l = true) (h0 : (mvC ep l r tt).2.2 = 0) : mayC (mvC ep l r tt).1 (mvC ep l r tt).2.1 = true := by
  unfold mvC at h0 ⊢
  by_cases hc : mayC ep l = true ∧ P.mayB r = true ∧ 1 ≤ tt ∧ tt ≤ 6
  · rw [if_pos hc] at h0 ⊢
    obtain ⟨_, hr, ht⟩ := hc
    unfold mayC at hm
    simp only [Bool.and_eq_true, decide_eq_true_eq] at hm
    obtain ⟨e1, e2, hch⟩ := hm
    obtain ⟨m1, m2, m3⟩ := move_inv r tt ((may_p r).1 hr) l 0 0 [] false hch (by omega) (by rw [rv_nil]; unfold NFr; rfl)
    have hL : chOK 0 0 (moveGo r tt l [] false).1 = true := by
      have h := nfr_chOK _ (moveGo r tt l [] false).1 rfl 65536 [] m1 (fun y hy => ?_) (by omega) (by simp [chOK])
      · rw [List.append_nil] at h; exact h
      · have hlt := nfr_mem _ _ m1 _ (rv_mem hy)
        have hat : At (rv (moveGo r tt l [] false).1) y.f0.f0 y.f1 := ⟨toPn y, rv_mem hy, by show y.f0.f0 ≤ y.f0.f0; omega, hlt, rfl⟩
        rcases (m2 y.f0.f0 y.f1).1 hat with h | ⟨z, hz, _, he⟩
        · rw [rv_nil] at h; exact absurd h (at_nil _ _)
        · have := (chOK_all l 0 0 hch).1 z hz (by omega)
          split at he <;> omega
    generalize moveGo r tt l [] false = X at h0 hL
    unfold moveEnd at h0 ⊢
    by_cases hx : X.2 = false
    · rw [if_pos hx]
      unfold mayC
      simp only [Bool.and_eq_true, decide_eq_true_eq]
      exact ⟨e1, e2, hL⟩
    · rw [if_neg hx] at h0 ⊢
      by_cases he : ep = 1099511627776
      · rw [if_pos he] at h0
        simp at h0
      · rw [if_neg he]
        unfold mayC
        simp only [Bool.and_eq_true, decide_eq_true_eq]
        rw [w64_small (by omega) (by omega)]
        exact ⟨by omega, by omega, hL⟩
  · rw [if_neg hc] at h0
    simp at h0
def gapN (r : Rg) (x : Int) : Nat := (if x < r.f0 then 1 else 0) + (if x < r.f1 then 1 else 0)
theorem putC_no (o : List Pc) (a b n : Int) (h : ¬ a < b) : P.putC o ⟨a, b⟩ n = o := by
  rw [putC_eq, if_neg (fun e => h ((may_p ⟨a, b⟩).1 e).2.1)]
theorem moveP_few (r : Rg) (tt : Int) (hr : MayP r) (y : Pc) (hy : MayP y.f0) (o : List Pc) : (moveP r tt y o).length + gapN r y.f0.f1 ≤ o.length + 1 + gapN r y.f0.f0 := by
  unfold moveP gapN
  have hm := meet_iff y.f0 r hy hr
  have hy' := hy
  unfold MayP at hy'
  by_cases hz : zB (P.meetR y.f0 r) = true
  · rw [if_pos hz]
    have := putC_len o y.f0 y.f1
    split <;> split <;> split <;> split <;> omega
  · have hyes : ∃ p, inR y.f0 p ∧ inR r p := Classical.byContradiction fun hn => hz (hm.2 hn)
    obtain ⟨pp, hp1, hp2⟩ := hyes
    rw [if_neg hz]
    have hmm : P.meetR y.f0 r = ⟨mx y.f0.f0 r.f0, mn y.f0.f1 r.f1⟩ := by
      unfold P.meetR
      split
      · rfl
      · rename_i hh
        exfalso
        apply hz
        unfold P.meetR
        rw [if_neg hh]
        rfl
    rw [hmm]
    simp only
    unfold inR at hp1 hp2
    generalize ha : mx y.f0.f0 r.f0 = a
    generalize hb : mn y.f0.f1 r.f1 = b
    have ha1 : y.f0.f0 ≤ a ∧ r.f0 ≤ a ∧ (a = y.f0.f0 ∨ a = r.f0) := by rw [← ha]; unfold mx; split <;> omega
    have hb1 : b ≤ y.f0.f1 ∧ b ≤ r.f1 ∧ (b = y.f0.f1 ∨ b = r.f1) := by rw [← hb]; unfold mn; split <;> omega
    have l1 : (P.putC o ⟨y.f0.f0, a⟩ y.f1).length ≤ o.length + (if y.f0.f0 < r.f0 then 1 else 0) := by
      by_cases h : y.f0.f0 < r.f0
      · rw [if_pos h]; exact putC_len _ _ _
      · rw [if_neg h, putC_no _ _ _ _ (by omega)]; omega
    have l2 := putC_len (P.putC o ⟨y.f0.f0, a⟩ y.f1) ⟨a, b⟩ tt
    have l3 : (P.putC (P.putC (P.putC o ⟨y.f0.f0, a⟩ y.f1) ⟨a, b⟩ tt) ⟨b, y.f0.f1⟩ y.f1).length ≤ (P.putC (P.putC o ⟨y.f0.f0, a⟩ y.f1) ⟨a, b⟩ tt).length + (if r.f1 < y.f0.f1 then 1 else 0) := by
      by_cases h : r.f1 < y.f0.f1
      · rw [if_pos h]; exact putC_len _ _ _
      · rw [if_neg h, putC_no _ _ _ _ (by omega)]; omega
    rw [if_neg (show ¬ y.f0.f1 < r.f0 by omega), if_pos (show y.f0.f0 < r.f1 by omega)]
    split at l1 <;> split at l3 <;> simp only [*, if_true, if_false] <;> (try split) <;> omega
theorem moveGo_few (r : Rg) (tt : Int) (hr : MayP r) : ∀ (l : List Pc) (x q : Int) (o : List Pc) (ch : Bool), chOK x q l = true → 0 ≤ x → (moveGo r tt l o ch).1.length ≤ o.length + l.length + gapN r x := by
  intro l
  induction l with
  | nil => intro x q o ch _ _; simp [moveGo]
  | cons y l ih =>
    intro x q o ch h h0
    simp only [chOK, Bool.and_eq_true, decide_eq_true_eq] at h
    obtain ⟨h1, h2, h3, h4, h5, h6, h7⟩ := h
    have hy : MayP y.f0 := ⟨by omega, by omega, h3⟩
    have i1 := ih y.f0.f1 y.f1 (moveP r tt y o) (ch || movePc r tt y) h7 (by omega)
    have i2 := moveP_few r tt hr y hy o
    rw [h1] at i2
    simp only [moveGo, List.length_cons]
    omega
theorem mvC_few (ep : Int) (l : List Pc) (r : Rg) (tt : Int) : (mvC ep l r tt).2.1.length ≤ l.length + 2 := by
  unfold mvC
  by_cases hc : mayC ep l = true ∧ P.mayB r = true ∧ 1 ≤ tt ∧ tt ≤ 6
  · rw [if_pos hc]
    obtain ⟨hm, hr, ht⟩ := hc
    unfold mayC at hm
    simp only [Bool.and_eq_true, decide_eq_true_eq] at hm
    have h := moveGo_few r tt ((may_p r).1 hr) l 0 0 [] false hm.2.2 (by omega)
    have hg : gapN r 0 ≤ 2 := by unfold gapN; split <;> split <;> omega
    unfold moveEnd
    split
    · simp only [List.length_nil] at h ⊢; omega
    · split
      · simp
      · simp only [List.length_nil] at h ⊢; omega
  · rw [if_neg hc]; simp
/-- A number folded into 0 .. m - 1. -/
theorem fold_lt (x m : Int) (h0 : 0 < m) (h1 : m < 1000000000) : 0 ≤ Int.tmod (wrap64 (Int.tmod x m + m)) m ∧ Int.tmod (wrap64 (Int.tmod x m + m)) m < m := by
  have a1 := Int.tmod_lt_of_pos x h0
  have a2 : -m < Int.tmod x m := by
    rcases Int.le_total 0 x with h | h
    · have := Int.tmod_nonneg m h; omega
    · have e : Int.tmod x m = -Int.tmod (-x) m := by rw [Int.neg_tmod]; omega
      have := Int.tmod_lt_of_pos (-x) h0
      omega
  rw [w64_small (by omega) (by omega)]
  exact ⟨Int.tmod_nonneg m (by omega), Int.tmod_lt_of_pos _ h0⟩
end Go.Proofs.Yteppmdafdopehaa.P.C4
