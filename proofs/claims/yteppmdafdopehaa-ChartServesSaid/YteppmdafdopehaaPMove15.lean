/- The plain law: a move, piece by piece as the code does it and from bound to bound as the document does it, comes to one chart. No program in sight. -/
import Derived.Test.YteppmdafdopehaaPMay15
import Derived.Test.YteppmdafdopehaaPNorm15
import Derived.Test.YteppmdafdopehaaGMove
import Derived.Test.YteppmdafdopehaaGRMove
namespace Go.Proofs.Yteppmdafdopehaa.P.C4
open Go.RowKit Go.Proofs.YteppmdafdopehaaW.PrintWords Go.Proofs.YteppmdafdopehaaW.PrintLast
set_option linter.unusedVariables false
theorem may_p (x : Rg) : P.mayB x = true ↔ MayP x := by
  unfold P.mayB MayP
  simp only [Bool.and_eq_true, decide_eq_true_eq]
def toPn (y : Pc) : Pn := ⟨y.f0.f0, y.f0.f1, y.f1⟩
/-- a chart's pieces, the last one first -/
def rv (o : List Pc) : List Pn := (o.map toPn).reverse
theorem rv_nil : rv [] = [] := rfl
theorem rv_snoc (o : List Pc) (y : Pc) : rv (o ++ [y]) = toPn y :: rv o := by unfold rv; simp
theorem rv_inj (a b : List Pc) (h : rv a = rv b) : a = b := by
  unfold rv at h
  have h1 : a.map toPn = b.map toPn := by rw [← List.reverse_reverse (a.map toPn), h, List.reverse_reverse]
  have hi : ∀ x y : Pc, toPn x = toPn y → x = y := by
    rintro ⟨⟨a, b⟩, c⟩ ⟨⟨a', b'⟩, c'⟩ hh
    simp only [toPn, Pn.mk.injEq] at hh
    obtain ⟨rfl, rfl, rfl⟩ := hh
    rfl
  have hm : ∀ (a b : List Pc), a.map toPn = b.map toPn → a = b := by
    intro a
    induction a with
    | nil =>
      intro b hb
      cases b with
      | nil => rfl
      | cons y b => cases hb
    | cons x a ih =>
      intro b hb
      cases b with
      | nil => cases hb
      | cons y b =>
        simp only [List.map_cons, List.cons.injEq] at hb
        rw [hi x y hb.1, ih b hb.2]
  exact hm a b h1
theorem last_snoc (o : List Pc) (y : Pc) : lastP (o ++ [y]) = y := by unfold lastP; simp
theorem rv_putR (o : List Pc) (lo hi s : Int) : rv (putR o lo hi s) = putP lo hi s (rv o) := by
  rcases List.eq_nil_or_concat o with rfl | ⟨o', y, rfl⟩
  · unfold putR; simp [rv, toPn, putP]
  · rw [List.concat_eq_append, rv_snoc, putP_cons]
    unfold putR
    rw [last_snoc]
    by_cases h : y.f1 = s
    · rw [if_pos ⟨by simp, h⟩, if_pos (show (toPn y).s = s from h)]
      have e : (o' ++ [y]).set ((o' ++ [y]).length - 1) ⟨⟨y.f0.f0, hi⟩, y.f1⟩ = o' ++ [⟨⟨y.f0.f0, hi⟩, y.f1⟩] := by simp
      rw [e, rv_snoc, h]
      rfl
    · rw [if_neg (fun e => h e.2), if_neg (show ¬ (toPn y).s = s from h), rv_snoc, rv_snoc]
      rfl
theorem putC_eq (o : List Pc) (x : Rg) (n : Int) : P.putC o x n = if P.mayB x = true then putR o x.f0 x.f1 n else o := rfl
theorem putC_seg (o : List Pc) (a b n : Int) (h : NFr a (rv o)) (h0 : 0 ≤ a) (hab : a ≤ b) (h1 : b ≤ 65536) :
    NFr b (rv (P.putC o ⟨a, b⟩ n)) ∧ ∀ p t, At (rv (P.putC o ⟨a, b⟩ n)) p t ↔ At (rv o) p t ∨ (a ≤ p ∧ p < b ∧ n = t) := by
  rw [putC_eq]
  by_cases hlt : a < b
  · rw [if_pos ((may_p ⟨a, b⟩).2 ⟨h0, hlt, h1⟩), rv_putR]
    exact ⟨put_nfr _ _ _ _ h hlt, fun p t => put_at _ _ _ _ _ _ h hlt⟩
  · rw [if_neg (fun e => hlt ((may_p ⟨a, b⟩).1 e).2.1)]
    obtain rfl : a = b := by omega
    exact ⟨h, fun p t => ⟨fun h => Or.inl h, fun h => h.elim id (fun h => by omega)⟩⟩
def inR (r : Rg) (p : Int) : Prop := r.f0 ≤ p ∧ p < r.f1
instance (r : Rg) (p : Int) : Decidable (inR r p) := inferInstanceAs (Decidable (_ ∧ _))
theorem meet_iff (x r : Rg) (hx : MayP x) (hr : MayP r) : zB (P.meetR x r) = true ↔ ¬ ∃ p, inR x p ∧ inR r p := by
  unfold P.meetR
  unfold MayP at hx hr
  by_cases h : P.mayB x = true ∧ P.mayB r = true ∧ P.mayB ⟨mx x.f0 r.f0, mn x.f1 r.f1⟩ = true
  · rw [if_pos h]
    have h2 := (may_p _).1 h.2.2
    unfold MayP mx mn at h2
    simp only at h2
    constructor
    · intro hz
      unfold zB mx mn at hz
      simp only [Bool.and_eq_true, beq_iff_eq] at hz
      omega
    · intro hn
      exact absurd ⟨(if x.f0 ≤ r.f0 then r.f0 else x.f0), by unfold inR; constructor <;> split <;> (split at h2 <;> split at h2 <;> omega), by unfold inR; constructor <;> split <;> (split at h2 <;> split at h2 <;> omega)⟩ hn
  · rw [if_neg h]
    refine ⟨fun _ => ?_, fun _ => rfl⟩
    rintro ⟨p, ⟨h1, h2⟩, h3, h4⟩
    refine h ⟨(may_p x).2 hx, (may_p r).2 hr, (may_p _).2 ?_⟩
    unfold MayP mx mn
    simp only
    split <;> split <;> omega
theorem moveP_seg (r : Rg) (tt : Int) (hr : MayP r) (y : Pc) (hy : MayP y.f0) (o : List Pc) (h : NFr y.f0.f0 (rv o)) :
    NFr y.f0.f1 (rv (moveP r tt y o)) ∧ (∀ p t, At (rv (moveP r tt y o)) p t ↔ At (rv o) p t ∨ (inR y.f0 p ∧ (if inR r p then tt else y.f1) = t)) ∧ (movePc r tt y = true ↔ ∃ p, inR y.f0 p ∧ inR r p ∧ y.f1 ≠ tt) := by
  unfold moveP movePc
  have hm := meet_iff y.f0 r hy hr
  have hy' := hy
  unfold MayP at hy'
  by_cases hz : zB (P.meetR y.f0 r) = true
  · have hno := hm.1 hz
    rw [if_pos hz, hz]
    obtain ⟨s1, s2⟩ := putC_seg o y.f0.f0 y.f0.f1 y.f1 h hy'.1 (by omega) hy'.2.2
    refine ⟨s1, fun p t => ?_, ?_⟩
    · refine (s2 p t).trans ?_
      constructor
      · rintro (h1 | ⟨h1, h2, h3⟩)
        · exact Or.inl h1
        · exact Or.inr ⟨⟨h1, h2⟩, by rw [if_neg (fun h4 => hno ⟨p, ⟨h1, h2⟩, h4⟩)]; exact h3⟩
      · rintro (h1 | ⟨h1, h3⟩)
        · exact Or.inl h1
        · rw [if_neg (fun h4 => hno ⟨p, h1, h4⟩)] at h3
          exact Or.inr ⟨h1.1, h1.2, h3⟩
    · simp only [Bool.not_true, Bool.false_and, Bool.false_eq_true, false_iff]
      rintro ⟨p, h1, h2, _⟩
      exact hno ⟨p, h1, h2⟩
  · have hyes : ∃ p, inR y.f0 p ∧ inR r p := Classical.byContradiction fun hn => hz (hm.2 hn)
    obtain ⟨pp, hp1, hp2⟩ := hyes
    rw [if_neg hz]
    have hzf : zB (P.meetR y.f0 r) = false := by simpa using hz
    rw [hzf]
    have hmm : P.meetR y.f0 r = ⟨mx y.f0.f0 r.f0, mn y.f0.f1 r.f1⟩ := by
      unfold P.meetR
      split
      · rfl
      · rename_i hh
        exfalso
        apply hz
        unfold P.meetR
        rw [if_neg hh]
        rfl
    rw [hmm]
    simp only
    unfold inR at hp1 hp2
    unfold MayP at hr
    generalize ha : mx y.f0.f0 r.f0 = a
    generalize hb : mn y.f0.f1 r.f1 = b
    have ha1 : y.f0.f0 ≤ a ∧ r.f0 ≤ a ∧ (a = y.f0.f0 ∨ a = r.f0) := by rw [← ha]; unfold mx; split <;> omega
    have hb1 : b ≤ y.f0.f1 ∧ b ≤ r.f1 ∧ (b = y.f0.f1 ∨ b = r.f1) := by rw [← hb]; unfold mn; split <;> omega
    obtain ⟨s1, s2⟩ := putC_seg o y.f0.f0 a y.f1 h hy'.1 (by omega) (by omega)
    obtain ⟨s3, s4⟩ := putC_seg _ a b tt s1 (by omega) (by omega) (by omega)
    obtain ⟨s5, s6⟩ := putC_seg _ b y.f0.f1 y.f1 s3 (by omega) (by omega) (by omega)
    refine ⟨s5, fun p t => ?_, ?_⟩
    · rw [s6 p t, s4 p t, s2 p t]
      constructor
      · rintro (((h1 | ⟨h1, h2, h3⟩) | ⟨h1, h2, h3⟩) | ⟨h1, h2, h3⟩)
        · exact Or.inl h1
        · exact Or.inr ⟨⟨by omega, by omega⟩, by rw [if_neg (by unfold inR; omega)]; exact h3⟩
        · exact Or.inr ⟨⟨by omega, by omega⟩, by rw [if_pos ⟨by omega, by omega⟩]; exact h3⟩
        · exact Or.inr ⟨⟨by omega, by omega⟩, by rw [if_neg (by unfold inR; omega)]; exact h3⟩
      · rintro (h1 | ⟨⟨h1, h2⟩, h3⟩)
        · exact Or.inl (Or.inl (Or.inl h1))
        · by_cases hpr : inR r p
          · rw [if_pos hpr] at h3
            exact Or.inl (Or.inr ⟨by have := hpr.1; omega, by have := hpr.2; omega, h3⟩)
          · rw [if_neg hpr] at h3
            unfold inR at hpr
            by_cases hpa : p < a
            · exact Or.inl (Or.inl (Or.inr ⟨h1, hpa, h3⟩))
            · exact Or.inr ⟨by omega, h2, h3⟩
    · simp only [Bool.not_false, Bool.true_and, bne_iff_ne, ne_eq]
      constructor
      · intro hne
        exact ⟨pp, hp1, hp2, hne⟩
      · rintro ⟨_, _, _, hne⟩
        exact hne
theorem move_inv (r : Rg) (tt : Int) (hr : MayP r) : ∀ (l : List Pc) (x q : Int) (o : List Pc) (ch : Bool), chOK x q l = true → 0 ≤ x → NFr x (rv o) →
    NFr 65536 (rv (moveGo r tt l o ch).1) ∧ (∀ p t, At (rv (moveGo r tt l o ch).1) p t ↔ At (rv o) p t ∨ ∃ y ∈ l, inR y.f0 p ∧ (if inR r p then tt else y.f1) = t) ∧
    ((moveGo r tt l o ch).2 = true ↔ ch = true ∨ ∃ y ∈ l, ∃ p, inR y.f0 p ∧ inR r p ∧ y.f1 ≠ tt) := by
  intro l
  induction l with
  | nil =>
    intro x q o ch hc h0 hn
    have hx : x = 65536 := by simpa [chOK] using hc
    subst hx
    simp only [moveGo]
    exact ⟨hn, fun p t => by simp, by simp⟩
  | cons y l ih =>
    intro x q o ch hc h0 hn
    simp only [chOK, Bool.and_eq_true, decide_eq_true_eq] at hc
    obtain ⟨h1, h2, h3, h4, h5, h6, h7⟩ := hc
    have hy : MayP y.f0 := ⟨by omega, by omega, h3⟩
    obtain ⟨a1, a2, a3⟩ := moveP_seg r tt hr y hy o (by rw [h1]; exact hn)
    obtain ⟨b1, b2, b3⟩ := ih y.f0.f1 y.f1 (moveP r tt y o) (ch || movePc r tt y) h7 (by omega) a1
    simp only [moveGo]
    refine ⟨b1, fun p t => ?_, ?_⟩
    · rw [b2 p t, a2 p t]
      constructor
      · rintro ((h | h) | ⟨z, hz, h⟩)
        · exact Or.inl h
        · exact Or.inr ⟨y, List.mem_cons_self, h⟩
        · exact Or.inr ⟨z, List.mem_cons_of_mem _ hz, h⟩
      · rintro (h | ⟨z, hz, h⟩)
        · exact Or.inl (Or.inl h)
        · rcases List.mem_cons.1 hz with rfl | hz
          · exact Or.inl (Or.inr h)
          · exact Or.inr ⟨z, hz, h⟩
    · rw [b3, Bool.or_eq_true, a3]
      constructor
      · rintro ((h | h) | ⟨z, hz, h⟩)
        · exact Or.inl h
        · exact Or.inr ⟨y, List.mem_cons_self, h⟩
        · exact Or.inr ⟨z, List.mem_cons_of_mem _ hz, h⟩
      · rintro (h | ⟨z, hz, h⟩)
        · exact Or.inl (Or.inl h)
        · rcases List.mem_cons.1 hz with rfl | hz
          · exact Or.inl (Or.inr h)
          · exact Or.inr ⟨z, hz, h⟩
/-- a place has one piece, and is served by its shard -/
theorem of_one : ∀ (l : List Pc) (x q : Int), chOK x q l = true → 0 ≤ x → ∀ p, x ≤ p → p < 65536 → (∃ y ∈ l, inR y.f0 p) ∧ ∀ y ∈ l, inR y.f0 p → ofC p l = y.f1 := by
  intro l
  induction l with
  | nil =>
    intro x q h h0 p h1 h2
    have hx : x = 65536 := by simpa [chOK] using h
    omega
  | cons z l ih =>
    intro x q h h0 p hp1 hp2
    have hall := chOK_all (z :: l) x q h
    simp only [chOK, Bool.and_eq_true, decide_eq_true_eq] at h
    obtain ⟨h1, h2, h3, h4, h5, h6, h7⟩ := h
    have hz : MayP z.f0 := ⟨by omega, by omega, h3⟩
    -- those behind begin at the end of z, or later
    have hlo : ∀ (l : List Pc) (x q : Int), chOK x q l = true → ∀ y ∈ l, x ≤ y.f0.f0 := by
      intro l
      induction l with
      | nil => intro x q _ y hy; cases hy
      | cons a l ih2 =>
        intro x q h y hy
        simp only [chOK, Bool.and_eq_true, decide_eq_true_eq] at h
        obtain ⟨h1, h2, _, _, _, _, h7⟩ := h
        rcases List.mem_cons.1 hy with rfl | hy
        · omega
        · have := ih2 _ _ h7 y hy; omega
    by_cases hin : p < z.f0.f1
    · have hzp : InP z.f0 p := ⟨hz, by omega, hin⟩
      refine ⟨⟨z, List.mem_cons_self, by unfold inR; omega⟩, fun y hy hyp => ?_⟩
      rw [ofC, if_pos hzp]
      rcases List.mem_cons.1 hy with rfl | hy
      · rfl
      · have := hlo l _ _ h7 y hy; unfold inR at hyp; omega
    · obtain ⟨⟨y, hy, hyp⟩, i2⟩ := ih z.f0.f1 z.f1 h7 (by omega) p (by omega) hp2
      have hzp : ¬ InP z.f0 p := fun h => by have := h.2.2; omega
      refine ⟨⟨y, List.mem_cons_of_mem _ hy, hyp⟩, fun y hy hyp => ?_⟩
      rw [ofC, if_neg hzp]
      rcases List.mem_cons.1 hy with rfl | hy
      · unfold inR at hyp; omega
      · exact i2 y hy hyp
/-- what a move comes to -/
def mvC (ep : Int) (l : List Pc) (r : Rg) (tt : Int) : Int × List Pc × Int :=
  if mayC ep l = true ∧ P.mayB r = true ∧ 1 ≤ tt ∧ tt ≤ 6 then moveEnd ep (moveGo r tt l [] false) else (0, [], 2)
theorem shardB_p (tt : Int) : shardB tt = true ↔ 1 ≤ tt ∧ tt ≤ 6 := by unfold shardB; rw [Bool.and_eq_true, decide_eq_true_eq, decide_eq_true_eq]
theorem move_ev (ep : Int) (l : List Pc) (r : Rg) (tt : Int) (h : l.length < 1000) : Ev (fun k => chart_Move.f k ep l r.f0 r.f1 tt) (mvC ep l r tt) := by
  unfold chart_Move.f mvC
  by_cases hc : mayC ep l = true ∧ P.mayB r = true ∧ 1 ≤ tt ∧ tt ≤ 6
  · rw [if_pos hc]
    refine Ev.bind (f := fun k t => if t = true ∧ P.mayB ⟨r.f0, r.f1⟩ = true ∧ shardB tt = true then (if l.length ≤ 100000 then some (moveEnd ep (moveGo ⟨r.f0, r.f1⟩ tt l [] false)) else none) else some (0, [], 2)) (may_ev ep l h) ?_
    rw [hc.1]
    refine Ev.congr (f := fun _ => some (moveEnd ep (moveGo r tt l [] false))) (fun k => ?_) (Ev.now _)
    rw [if_pos ⟨rfl, hc.2.1, (shardB_p tt).2 hc.2.2⟩, if_pos (by omega)]
  · rw [if_neg hc]
    refine Ev.bind (f := fun k t => if t = true ∧ P.mayB ⟨r.f0, r.f1⟩ = true ∧ shardB tt = true then (if l.length ≤ 100000 then some (moveEnd ep (moveGo ⟨r.f0, r.f1⟩ tt l [] false)) else none) else some (0, [], 2)) (may_ev ep l h) ?_
    refine Ev.congr (f := fun _ => some (0, [], 2)) (fun k => ?_) (Ev.now _)
    rw [if_neg (fun e => hc ⟨e.1, e.2.1, (shardB_p tt).1 e.2.2⟩)]
end Go.Proofs.Yteppmdafdopehaa.P.C4
