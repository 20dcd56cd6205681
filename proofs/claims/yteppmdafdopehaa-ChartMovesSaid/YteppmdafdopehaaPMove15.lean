/- The plain law: a move, piece by piece as the code does it and from bound to bound as the document does it, comes to one chart. No program in sight. -/
import Derived.Test.YteppmdafdopehaaPMay15
import Derived.Test.YteppmdafdopehaaPNorm15
import Derived.Test.YteppmdafdopehaaGMove
import Derived.Test.YteppmdafdopehaaGRMove
namespace Go.Proofs.Yteppmdafdopehaa.P.C4
open Go.RowKit Go.Proofs.YteppmdafdopehaaW.PrintWords Go.Proofs.YteppmdafdopehaaW.PrintLast
set_option linter.unusedVariables false

theorem may_p (x : Rg) : P.mayB x = true ↔ MayP x := by
  unfold P.mayB MayP
  simp only [Bool.and_eq_true, decide_eq_true_eq]
def toPn (y : Pc) : Pn := ⟨y.f0.f0, y.f0.f1, y.f1⟩
/-- a chart's pieces, the last one first -/
def rv (o : List Pc) : List Pn := (o.map toPn).reverse
theorem rv_nil : rv [] = [] := rfl
theorem rv_snoc (o : List Pc) (y : Pc) : rv (o ++ [y]) = toPn y :: rv o := by unfold rv; simp
theorem rv_inj (a b : List Pc) (h : rv a = rv b) : a = b := by
  unfold rv at h
  have h1 : a.map toPn = b.map toPn := by rw [← List.reverse_reverse (a.map toPn), h, List.reverse_reverse]
  have hi : ∀ x y : Pc, toPn x = toPn y → x = y := by
    rintro ⟨⟨a, b⟩, c⟩ ⟨⟨a', b'⟩, c'⟩ hh
    simp only [toPn, Pn.mk.injEq] at hh
    obtain ⟨rfl, rfl, rfl⟩ := hh
    rfl
  have hm : ∀ (a b : List Pc), a.map toPn = b.map toPn → a = b := by
    intro a
    induction a with
    | nil =>
      intro b hb
      cases b with
      | nil => rfl
      | cons y b => cases hb
    | cons x a ih =>
      intro b hb
      cases b with
      | nil => cases hb
      | cons y b =>
        simp only [List.map_cons, List.cons.injEq] at hb
        rw [hi x y hb.1, ih b hb.2]
  exact hm a b h1
theorem last_snoc (o : List Pc) (y : Pc) : lastP (o ++ [y]) = y := by unfold lastP; simp
theorem rv_putR (o : List Pc) (lo hi s : Int) : rv (putR o lo hi s) = putP lo hi s (rv o) := by
  rcases List.eq_nil_or_concat o with rfl | ⟨o', y, rfl⟩
  · unfold putR; simp [rv, toPn, putP]
  · rw [List.concat_eq_append, rv_snoc, putP_cons]
    unfold putR
    rw [last_snoc]
    by_cases h : y.f1 = s
    · rw [if_pos ⟨by simp, h⟩, if_pos (show (toPn y).s = s from h)]
      have e : (o' ++ [y]).set ((o' ++ [y]).length - 1) ⟨⟨y.f0.f0, hi⟩, y.f1⟩ = o' ++ [⟨⟨y.f0.f0, hi⟩, y.f1⟩] := by simp
      rw [e, rv_snoc, h]
      rfl
    · rw [if_neg (fun e => h e.2), if_neg (show ¬ (toPn y).s = s from h), rv_snoc, rv_snoc]
      rfl
theorem putC_eq (o : List Pc) (x : Rg) (n : Int) : P.putC o x n = if P.mayB x = true then putR o x.f0 x.f1 n else o := rfl
theorem putC_seg (o : List Pc) (a b n : Int) (h : NFr a (rv o)) (h0 : 0 ≤ a) (hab : a ≤ b) (h1 : b ≤ 65536) :
    NFr b (rv (P.putC o ⟨a, b⟩ n)) ∧ ∀ p t, At (rv (P.putC o ⟨a, b⟩ n)) p t ↔ At (rv o) p t ∨ (a ≤ p ∧ p < b ∧ n = t) := by
  rw [putC_eq]
  by_cases hlt : a < b
  · rw [if_pos ((may_p ⟨a, b⟩).2 ⟨h0, hlt, h1⟩), rv_putR]
    exact ⟨put_nfr _ _ _ _ h hlt, fun p t => put_at _ _ _ _ _ _ h hlt⟩
  · rw [if_neg (fun e => hlt ((may_p ⟨a, b⟩).1 e).2.1)]
    obtain rfl : a = b := by omega
    exact ⟨h, fun p t => ⟨fun h => Or.inl h, fun h => h.elim id (fun h => by omega)⟩⟩
def inR (r : Rg) (p : Int) : Prop := r.f0 ≤ p ∧ p < r.f1
instance (r : Rg) (p : Int) : Decidable (inR r p) := inferInstanceAs (Decidable (_ ∧ _))
theorem meet_iff (x r : Rg) (hx : MayP x) (hr : MayP r) : zB (P.meetR x r) = true ↔ ¬ ∃ p, inR x p ∧ inR r p := by
  unfold P.meetR
  unfold MayP at hx hr
  by_cases h : P.mayB x = true ∧ P.mayB r = true ∧ P.mayB ⟨mx x.f0 r.f0, mn x.f1 r.f1⟩ = true
  · rw [if_pos h]
    have h2 := (may_p _).1 h.2.2
    unfold MayP mx mn at h2
    simp only at h2
    constructor
    · intro hz
      unfold zB mx mn at hz
      simp only [Bool.and_eq_true, beq_iff_eq] at hz
      omega
    · intro hn
      exact absurd ⟨(if x.f0 ≤ r.f0 then r.f0 else x.f0), by unfold inR; constructor <;> split <;> (split at h2 <;> split at h2 <;> omega), by unfold inR; constructor <;> split <;> (split at h2 <;> split at h2 <;> omega)⟩ hn
  · rw [if_neg h]
    refine ⟨fun _ => ?_, fun _ => rfl⟩
    rintro ⟨p, ⟨h1, h2⟩, h3, h4⟩
    refine h ⟨(may_p x).2 hx, (may_p r).2 hr, (may_p _).2 ?_⟩
    unfold MayP mx mn
    simp only
    split <;> split <;> omega

theorem moveP_seg (r : Rg) (tt : Int) (hr : MayP r) (y : Pc) (hy : MayP y.f0) (o : List Pc) (h : NFr y.f0.f0 (rv o)) :
    NFr y.f0.f1 (rv (moveP r tt y o)) ∧ (∀ p t, At (rv (moveP r tt y o)) p t ↔ At (rv o) p t ∨ (inR y.f0 p ∧ (if inR r p then tt else y.f1) = t)) ∧ (movePc r tt y = true ↔ ∃ p, inR y.f0 p ∧ inR r p ∧ y.f1 ≠ tt) := by
  unfold moveP movePc
  have hm := meet_iff y.f0 r hy hr
  have hy' := hy
  unfold MayP at hy'
  by_cases hz : zB (P.meetR y.f0 r) = true
  · have hno := hm.1 hz
    rw [if_pos hz, hz]
    obtain ⟨s1, s2⟩ := putC_seg o y.f0.f0 y.f0.f1 y.f1 h hy'.1 (by omega) hy'.2.2
    refine ⟨s1, fun p t => ?_, ?_⟩
    · refine (s2 p t).trans ?_
      constructor
      · rintro (h1 | ⟨h1, h2, h3⟩)
        · exact Or.inl h1
        · exact Or.inr ⟨⟨h1, h2⟩, by rw [if_neg (fun h4 => hno ⟨p, ⟨h1, h2⟩, h4⟩)]; exact h3⟩
      · rintro (h1 | ⟨h1, h3⟩)
        · exact Or.inl h1
        · rw [if_neg (fun h4 => hno ⟨p, h1, h4⟩)] at h3
          exact Or.inr ⟨h1.1, h1.2, h3⟩
    · simp only [Bool.not_true, Bool.false_and, Bool.false_eq_true, false_iff]
      rintro ⟨p, h1, h2, _⟩
      exact hno ⟨p, h1, h2⟩
  · have hyes : ∃ p, inR y.f0 p ∧ inR r p := Classical.byContradiction fun hn => hz (hm.2 hn)
    obtain ⟨pp, hp1, hp2⟩ := hyes
    rw [if_neg hz]
    have hzf : zB (P.meetR y.f0 r) = false := by simpa using hz
    rw [hzf]
    have hmm : P.meetR y.f0 r = ⟨mx y.f0.f0 r.f0, mn y.f0.f1 r.f1⟩ := by
      unfold P.meetR
      split
      · rfl
      · rename_i hh
        exfalso
        apply hz
        unfold P.meetR
        rw [if_neg hh]
        rfl
    rw [hmm]
    simp only
    unfold inR at hp1 hp2
    unfold MayP at hr
    generalize ha : mx y.f0.f0 r.f0 = a
    generalize hb : mn y.f0.f1 r.f1 = b
    have ha1 : y.f0.f0 ≤ a ∧ r.f0 ≤ a ∧ (a = y.f0.f0 ∨ a = r.f0) := by rw [← ha]; unfold mx; split <;> omega
    have hb1 : b ≤ y.f0.f1 ∧ b ≤ r.f1 ∧ (b = y.f0.f1 ∨ b = r.f1) := by rw [← hb]; unfold mn; split <;> omega
    obtain ⟨s1, s2⟩ := putC_seg o y.f0.f0 a y.f1 h hy'.1 (by omega) (by omega)
    obtain ⟨s3, s4⟩ := putC_seg _ a b tt s1 (by omega) (by omega) (by omega)
    obtain ⟨s5, s6⟩ := putC_seg _ b y.f0.f1 y.f1 s3 (by omega) (by omega) (by omega)
    refine ⟨s5, fun p t => ?_, ?_⟩
    · rw [s6 p t, s4 p t, s2 p t]
      constructor
      · rintro (((h1 | ⟨h1, h2, h3⟩) | ⟨h1, h2, h3⟩) | ⟨h1, h2, h3⟩)
        · exact Or.inl h1
        · exact Or.inr ⟨⟨by omega, by omega⟩, by rw [if_neg (by unfold inR; omega)]; exact h3⟩
        · exact Or.inr ⟨⟨by omega, by omega⟩, by rw [if_pos ⟨by omega, by omega⟩]; exact h3⟩
        · exact Or.inr ⟨⟨by omega, by omega⟩, by rw [if_neg (by unfold inR; omega)]; exact h3⟩
      · rintro (h1 | ⟨⟨h1, h2⟩, h3⟩)
        · exact Or.inl (Or.inl (Or.inl h1))
        · by_cases hpr : inR r p
          · rw [if_pos hpr] at h3
            exact Or.inl (Or.inr ⟨by have := hpr.1; omega, by have := hpr.2; omega, h3⟩)
          · rw [if_neg hpr] at h3
            unfold inR at hpr
            by_cases hpa : p < a
            · exact Or.inl (Or.inl (Or.inr ⟨h1, hpa, h3⟩))
            · exact Or.inr ⟨by omega, h2, h3⟩
    · simp only [Bool.not_false, Bool.true_and, bne_iff_ne, ne_eq]
      constructor
      · intro hne
        exact ⟨pp, hp1, hp2, hne⟩
      · rintro ⟨_, _, _, hne⟩
        exact hne
theorem move_inv (r : Rg) (tt : Int) (hr : MayP r) : ∀ (l : List Pc) (x q : Int) (o : List Pc) (ch : Bool), chOK x q l = true → 0 ≤ x → NFr x (rv o) →
    NFr 65536 (rv (moveGo r tt l o ch).1) ∧ (∀ p t, At (rv (moveGo r tt l o ch).1) p t ↔ At (rv o) p t ∨ ∃ y ∈ l, inR y.f0 p ∧ (if inR r p then tt else y.f1) = t) ∧
    ((moveGo r tt l o ch).2 = true ↔ ch = true ∨ ∃ y ∈ l, ∃ p, inR y.f0 p ∧ inR r p ∧ y.f1 ≠ tt) := by
  intro l
  induction l with
  | nil =>
    intro x q o ch hc h0 hn
    have hx : x = 65536 := by simpa [chOK] using hc
    subst hx
    simp only [moveGo]
    exact ⟨hn, fun p t => by simp, by simp⟩
  | cons y l ih =>
    intro x q o ch hc h0 hn
    simp only [chOK, Bool.and_eq_true, decide_eq_true_eq] at hc
    obtain ⟨h1, h2, h3, h4, h5, h6, h7⟩ := hc
    have hy : MayP y.f0 := ⟨by omega, by omega, h3⟩
    obtain ⟨a1, a2, a3⟩ := moveP_seg r tt hr y hy o (by rw [h1]; exact hn)
    obtain ⟨b1, b2, b3⟩ := ih y.f0.f1 y.f1 (moveP r tt y o) (ch || movePc r tt y) h7 (by omega) a1
    simp only [moveGo]
    refine ⟨b1, fun p t => ?_, ?_⟩
    · rw [b2 p t, a2 p t]
      constructor
      · rintro ((h | h) | ⟨z, hz, h⟩)
        · exact Or.inl h
        · exact Or.inr ⟨y, List.mem_cons_self, h⟩
        · exact Or.inr ⟨z, List.mem_cons_of_mem _ hz, h⟩
      · rintro (h | ⟨z, hz, h⟩)
        · exact Or.inl (Or.inl h)
        · rcases List.mem_cons.1 hz with rfl | hz
          · exact Or.inl (Or.inr h)
          · exact Or.inr ⟨z, hz, h⟩
    · rw [b3, Bool.or_eq_true, a3]
      constructor
      · rintro ((h | h) | ⟨z, hz, h⟩)
        · exact Or.inl h
        · exact Or.inr ⟨y, List.mem_cons_self, h⟩
        · exact Or.inr ⟨z, List.mem_cons_of_mem _ hz, h⟩
      · rintro (h | ⟨z, hz, h⟩)
        · exact Or.inl (Or.inl h)
        · rcases List.mem_cons.1 hz with rfl | hz
          · exact Or.inl (Or.inr h)
          · exact Or.inr ⟨z, hz, h⟩
/-- a place has one piece, and is served by its shard -/
theorem of_one : ∀ (l : List Pc) (x q : Int), chOK x q l = true → 0 ≤ x → ∀ p, x ≤ p → p < 65536 → (∃ y ∈ l, inR y.f0 p) ∧ ∀ y ∈ l, inR y.f0 p → ofC p l = y.f1 := by
  intro l
  induction l with
  | nil =>
    intro x q h h0 p h1 h2
    have hx : x = 65536 := by simpa [chOK] using h
    omega
  | cons z l ih =>
    intro x q h h0 p hp1 hp2
    have hall := chOK_all (z :: l) x q h
    simp only [chOK, Bool.and_eq_true, decide_eq_true_eq] at h
    obtain ⟨h1, h2, h3, h4, h5, h6, h7⟩ := h
    have hz : MayP z.f0 := ⟨by omega, by omega, h3⟩
    -- those behind begin at the end of z, or later
    have hlo : ∀ (l : List Pc) (x q : Int), chOK x q l = true → ∀ y ∈ l, x ≤ y.f0.f0 := by
      intro l
      induction l with
      | nil => intro x q _ y hy; cases hy
      | cons a l ih2 =>
        intro x q h y hy
        simp only [chOK, Bool.and_eq_true, decide_eq_true_eq] at h
        obtain ⟨h1, h2, _, _, _, _, h7⟩ := h
        rcases List.mem_cons.1 hy with rfl | hy
        · omega
        · have := ih2 _ _ h7 y hy; omega
    by_cases hin : p < z.f0.f1
    · have hzp : InP z.f0 p := ⟨hz, by omega, hin⟩
      refine ⟨⟨z, List.mem_cons_self, by unfold inR; omega⟩, fun y hy hyp => ?_⟩
      rw [ofC, if_pos hzp]
      rcases List.mem_cons.1 hy with rfl | hy
      · rfl
      · have := hlo l _ _ h7 y hy; unfold inR at hyp; omega
    · obtain ⟨⟨y, hy, hyp⟩, i2⟩ := ih z.f0.f1 z.f1 h7 (by omega) p (by omega) hp2
      have hzp : ¬ InP z.f0 p := fun h => by have := h.2.2; omega
      refine ⟨⟨y, List.mem_cons_of_mem _ hy, hyp⟩, fun y hy hyp => ?_⟩
      rw [ofC, if_neg hzp]
      rcases List.mem_cons.1 hy with rfl | hy
      · unfold inR at hyp; omega
      · exact i2 y hy hyp

/-! from bound to bound -/
def valR (r : Rg) (tt : Int) (l : List Pc) (p : Int) : Int := isQ r tt p (ofC p l)
def rmP (r : Rg) (tt : Int) (l : List Pc) : List Int → List Pc → Bool → List Pc × Bool
  | x :: y :: bs, o, ch => rmP r tt l (y :: bs) (putR o x y (valR r tt l x)) (ch || (valR r tt l x != ofC x l))
  | _, o, ch => (o, ch)
theorem rmGo_ev (ep : Int) (l : List Pc) (r : Rg) (tt : Int) (h : l.length < 1000) : ∀ (b : List Int) (o : List Pc) (ch : Bool), Ev (fun k => rmGo k ep l r tt b o ch) (rmP r tt l b o ch) := by
  intro b
  induction b with
  | nil => intro o ch; exact Ev.now _
  | cons x b ih =>
    intro o ch
    cases b with
    | nil => exact Ev.now _
    | cons y bs =>
      simp only [rmGo, rmP]
      exact Ev.bind (f := fun k was => rmGo k ep l r tt (y :: bs) (putR o x y (isQ r tt x was)) (ch || (isQ r tt x was != was))) (rof_ev ep l x h) (ih _ _)
def Const (V W : Int → Int) : List Int → Prop
  | x :: y :: bs => (∀ p, x ≤ p → p < y → V p = V x ∧ W p = W x) ∧ Const V W (y :: bs)
  | _ => True
theorem rm_inv (r : Rg) (tt : Int) (l : List Pc) : ∀ (b : List Int) (x : Int) (o : List Pc) (ch : Bool), (x :: b).Pairwise (· < ·) → Const (valR r tt l) (fun p => ofC p l) (x :: b) → NFr x (rv o) →
    NFr ((x :: b).getLast (by simp)) (rv (rmP r tt l (x :: b) o ch).1) ∧ (∀ p t, At (rv (rmP r tt l (x :: b) o ch).1) p t ↔ At (rv o) p t ∨ (x ≤ p ∧ p < (x :: b).getLast (by simp) ∧ valR r tt l p = t)) ∧
    ((rmP r tt l (x :: b) o ch).2 = true ↔ ch = true ∨ ∃ p, x ≤ p ∧ p < (x :: b).getLast (by simp) ∧ valR r tt l p ≠ ofC p l) := by
  intro b
  induction b with
  | nil =>
    intro x o ch hp hc hn
    simp only [rmP, List.getLast_singleton]
    exact ⟨hn, fun p t => ⟨fun h => Or.inl h, fun h => h.elim id (fun h => by omega)⟩, ⟨fun h => Or.inl h, fun h => h.elim id (fun ⟨p, h⟩ => by omega)⟩⟩
  | cons y bs ih =>
    intro x o ch hp hc hn
    obtain ⟨hc1, hc2⟩ := hc
    rw [List.pairwise_cons] at hp
    have hxy := hp.1 y List.mem_cons_self
    have hle : y ≤ (y :: bs).getLast (by simp) := by
      rcases List.mem_cons.1 (List.getLast_mem (show y :: bs ≠ [] by simp)) with h | h
      · omega
      · have := (List.pairwise_cons.1 hp.2).1 _ h; omega
    have hn2 : NFr y (rv (putR o x y (valR r tt l x))) := by rw [rv_putR]; exact put_nfr _ _ _ _ hn hxy
    have ha2 : ∀ p t, At (rv (putR o x y (valR r tt l x))) p t ↔ At (rv o) p t ∨ (x ≤ p ∧ p < y ∧ valR r tt l x = t) := fun p t => by rw [rv_putR]; exact put_at _ _ _ _ _ _ hn hxy
    obtain ⟨i1, i2, i3⟩ := ih y (putR o x y (valR r tt l x)) (ch || (valR r tt l x != ofC x l)) hp.2 hc2 hn2
    have hg : (x :: y :: bs).getLast (by simp) = (y :: bs).getLast (by simp) := List.getLast_cons (by simp)
    simp only [rmP]
    rw [hg]
    refine ⟨i1, fun p t => ?_, ?_⟩
    · rw [i2 p t, ha2 p t]
      constructor
      · rintro ((h | ⟨h1, h2, h3⟩) | ⟨h1, h2, h3⟩)
        · exact Or.inl h
        · exact Or.inr ⟨h1, by omega, by rw [(hc1 p h1 h2).1]; exact h3⟩
        · exact Or.inr ⟨by omega, h2, h3⟩
      · rintro (h | ⟨h1, h2, h3⟩)
        · exact Or.inl (Or.inl h)
        · by_cases hpy : p < y
          · exact Or.inl (Or.inr ⟨h1, hpy, by rw [← (hc1 p h1 hpy).1]; exact h3⟩)
          · exact Or.inr ⟨by omega, h2, h3⟩
    · rw [i3, Bool.or_eq_true, bne_iff_ne]
      constructor
      · rintro ((h | h) | ⟨p, h1, h2, h3⟩)
        · exact Or.inl h
        · exact Or.inr ⟨x, by omega, by omega, h⟩
        · exact Or.inr ⟨p, by omega, h2, h3⟩
      · rintro (h | ⟨p, h1, h2, h3⟩)
        · exact Or.inl (Or.inl h)
        · by_cases hpy : p < y
          · refine Or.inl (Or.inr ?_)
            have hcc := hc1 p h1 hpy
            have hcb : ofC p l = ofC x l := hcc.2
            rw [hcc.1, hcb] at h3
            exact h3
          · exact Or.inr ⟨p, by omega, h2, h3⟩

/-! both come to one chart -/
theorem inQ_p (x : Rg) (p : Int) : inQ x p = true ↔ InP x p := by
  unfold inQ InP
  rw [Bool.and_eq_true, may_p, Bool.and_eq_true, decide_eq_true_eq, decide_eq_true_eq]
theorem of_between (l : List Pc) (b p : Int) (h : ∀ y ∈ l, (InP y.f0 p ↔ InP y.f0 b)) : ofC p l = ofC b l := by
  induction l with
  | nil => rfl
  | cons y l ih =>
    have h1 := h y List.mem_cons_self
    rw [ofC, ofC, ih (fun z hz => h z (List.mem_cons_of_mem _ hz))]
    by_cases hp : InP y.f0 p
    · rw [if_pos hp, if_pos (h1.1 hp)]
    · rw [if_neg hp, if_neg (fun e => hp (h1.2 e))]
theorem const_of (r : Rg) (tt : Int) (l : List Pc) (B : List Int) (hB : ∀ z ∈ r :: l.map (·.f0), ∀ e, MayP z → (e = z.f0 ∨ e = z.f1) → e ∈ B) :
    ∀ (b : List Int), b.Pairwise (· < ·) → (∀ e ∈ B, e ∈ b ∨ ∀ x ∈ b, e < x) → Const (valR r tt l) (fun p => ofC p l) b := by
  intro b
  induction b with
  | nil => intro _ _; trivial
  | cons x b ih =>
    intro hp hm
    cases b with
    | nil => trivial
    | cons y bs =>
      have hp2 := hp
      rw [List.pairwise_cons] at hp
      have hxy := hp.1 y List.mem_cons_self
      refine ⟨fun p h1 h2 => ?_, ih hp.2 (fun e he => ?_)⟩
      · have hbt : ∀ z ∈ r :: l.map (·.f0), InP z p ↔ InP z x := fun z hz => same_between z x p h1 (fun e hme hee => by
          rcases hm e (hB z hz e hme hee) with h | h
          · rcases List.mem_cons.1 h with rfl | h
            · exact Or.inl (Int.le_refl _)
            · rcases List.mem_cons.1 h with rfl | h
              · exact Or.inr h2
              · have := (List.pairwise_cons.1 hp.2).1 e h
                exact Or.inr (by omega)
          · have := h x List.mem_cons_self
            exact Or.inl (by omega))
        have ho : ofC p l = ofC x l := of_between l x p (fun y hy => hbt _ (List.mem_cons_of_mem _ (List.mem_map_of_mem hy)))
        refine ⟨?_, ho⟩
        unfold valR isQ
        have hr := hbt r List.mem_cons_self
        rw [ho]
        by_cases hq : InP r p
        · rw [if_pos ((inQ_p r p).2 hq), if_pos ((inQ_p r x).2 (hr.1 hq))]
        · rw [if_neg (fun e => hq ((inQ_p r p).1 e)), if_neg (fun e => hq (hr.2 ((inQ_p r x).1 e)))]
      · rcases hm e he with h | h
        · rcases List.mem_cons.1 h with rfl | h
          · refine Or.inr (fun z hz => hp.1 z hz)
          · exact Or.inl h
        · exact Or.inr (fun z hz => h z (List.mem_cons_of_mem _ hz))
theorem chOK_end : ∀ (l : List Pc) (x q : Int), chOK x q l = true → x = 65536 ∨ ∃ y ∈ l, y.f0.f1 = 65536 := by
  intro l
  induction l with
  | nil => intro x q h; exact Or.inl (by simpa [chOK] using h)
  | cons y l ih =>
    intro x q h
    simp only [chOK, Bool.and_eq_true, decide_eq_true_eq] at h
    rcases ih _ _ h.2.2.2.2.2.2 with h1 | ⟨z, hz, h1⟩
    · exact Or.inr ⟨y, List.mem_cons_self, h1⟩
    · exact Or.inr ⟨z, List.mem_cons_of_mem _ hz, h1⟩
theorem sorted_head (b : List Int) (h : b.Pairwise (· < ·)) (m : Int) (hm : m ∈ b) (hall : ∀ x ∈ b, m ≤ x) : ∃ bs, b = m :: bs := by
  cases b with
  | nil => cases hm
  | cons x bs =>
    rcases List.mem_cons.1 hm with rfl | h1
    · exact ⟨bs, rfl⟩
    · have h2 := (List.pairwise_cons.1 h).1 m h1
      have h3 := hall x List.mem_cons_self
      omega
theorem sorted_last : ∀ (b : List Int) (hb : b ≠ []), b.Pairwise (· < ·) → ∀ (m : Int), m ∈ b → (∀ x ∈ b, x ≤ m) → b.getLast hb = m := by
  intro b
  induction b with
  | nil => intro hb; exact absurd rfl hb
  | cons x b ih =>
    intro hb hp m hm hall
    cases b with
    | nil =>
      rw [List.getLast_singleton]
      rcases List.mem_cons.1 hm with rfl | h
      · rfl
      · cases h
    | cons y bs =>
      rw [List.getLast_cons (by simp)]
      refine ih (by simp) (List.pairwise_cons.1 hp).2 m ?_ (fun z hz => hall z (List.mem_cons_of_mem _ hz))
      rcases List.mem_cons.1 hm with rfl | h
      · have h1 := (List.pairwise_cons.1 hp).1 y List.mem_cons_self
        have h2 := hall y (List.mem_cons_of_mem _ List.mem_cons_self)
        omega
      · exact h
theorem both (r : Rg) (tt : Int) (hr : MayP r) (l : List Pc) (hl : chOK 0 0 l = true) : rmP r tt l (bnds (r :: l.map (·.f0))) [] false = moveGo r tt l [] false := by
  have hmay := (chOK_all l 0 0 hl).1
  obtain ⟨m1, m2, m3⟩ := move_inv r tt hr l 0 0 [] false hl (by omega) (by rw [rv_nil]; rfl)
  have hrise := bnds_rise (r :: l.map (·.f0))
  have hmem := bnds_mem (r :: l.map (·.f0))
  have hall : ∀ e ∈ bnds (r :: l.map (·.f0)), 0 ≤ e ∧ e ≤ 65536 := by
    intro e he
    rcases (hmem e).1 he with rfl | ⟨x, _, hx, h⟩
    · omega
    · unfold MayP at hx; omega
  obtain ⟨bs, hbs⟩ := sorted_head _ hrise 0 ((hmem 0).2 (Or.inl rfl)) (fun x hx => (hall x hx).1)
  have hlast : ∀ hne, (bnds (r :: l.map (·.f0))).getLast hne = 65536 := by
    intro hne
    refine sorted_last _ hne hrise 65536 ?_ (fun x hx => (hall x hx).2)
    rcases chOK_end l 0 0 hl with h | ⟨y, hy, h⟩
    · omega
    · exact (hmem _).2 (Or.inr ⟨y.f0, List.mem_cons_of_mem _ (List.mem_map_of_mem hy), (hmay y hy (by omega)).1, Or.inr h.symm⟩)
  have hconst : Const (valR r tt l) (fun p => ofC p l) (bnds (r :: l.map (·.f0))) :=
    const_of r tt l _ (fun z hz e hm he => (hmem e).2 (Or.inr ⟨z, hz, hm, he⟩)) _ hrise (fun e he => Or.inl he)
  rw [hbs] at hrise hconst hlast ⊢
  obtain ⟨k1, k2, k3⟩ := rm_inv r tt l bs 0 [] false hrise hconst (by rw [rv_nil]; rfl)
  rw [hlast] at k1 k2 k3
  -- what serves a place
  have hval : ∀ p, 0 ≤ p → p < 65536 → ∀ y ∈ l, inR y.f0 p → valR r tt l p = if inR r p then tt else y.f1 := by
    intro p h0 h1 y hy hyp
    unfold valR isQ
    rw [(of_one l 0 0 hl (by omega) p h0 h1).2 y hy hyp]
    by_cases hq : inR r p
    · rw [if_pos hq, if_pos ((inQ_p r p).2 ⟨hr, hq.1, hq.2⟩)]
    · rw [if_neg hq, if_neg (fun e => hq ((inQ_p r p).1 e).2)]
  have hin : ∀ y ∈ l, ∀ p, inR y.f0 p → 0 ≤ p ∧ p < 65536 := by
    intro y hy p hp
    have := (hmay y hy (by omega)).1
    unfold MayP at this
    unfold inR at hp
    omega
  have e1 : (rmP r tt l (0 :: bs) [] false).1 = (moveGo r tt l [] false).1 := by
    refine rv_inj _ _ (nfr_uniq _ _ 65536 k1 m1 (fun p t => ?_))
    rw [k2 p t, m2 p t]
    constructor
    · rintro (h | ⟨h1, h2, h3⟩)
      · exact Or.inl h
      · obtain ⟨y, hy, hyp⟩ := (of_one l 0 0 hl (by omega) p h1 h2).1
        exact Or.inr ⟨y, hy, hyp, by rw [← hval p h1 h2 y hy hyp]; exact h3⟩
    · rintro (h | ⟨y, hy, hyp, h3⟩)
      · exact Or.inl h
      · obtain ⟨h1, h2⟩ := hin y hy p hyp
        exact Or.inr ⟨h1, h2, by rw [hval p h1 h2 y hy hyp]; exact h3⟩
  have e2 : (rmP r tt l (0 :: bs) [] false).2 = (moveGo r tt l [] false).2 := by
    rw [Bool.eq_iff_iff, k3, m3]
    simp only [Bool.false_eq_true, false_or]
    constructor
    · rintro ⟨p, h1, h2, h3⟩
      obtain ⟨⟨y, hy, hyp⟩, ho⟩ := of_one l 0 0 hl (by omega) p h1 h2
      rw [hval p h1 h2 y hy hyp, ho y hy hyp] at h3
      by_cases hq : inR r p
      · rw [if_pos hq] at h3
        exact ⟨y, hy, p, hyp, hq, fun e => h3 e.symm⟩
      · rw [if_neg hq] at h3
        exact absurd rfl h3
    · rintro ⟨y, hy, p, hyp, hq, hne⟩
      obtain ⟨h1, h2⟩ := hin y hy p hyp
      refine ⟨p, h1, h2, ?_⟩
      rw [hval p h1 h2 y hy hyp, (of_one l 0 0 hl (by omega) p h1 h2).2 y hy hyp, if_pos hq]
      exact fun e => hne e.symm
  exact Prod.ext e1 e2

/-- what a move comes to -/
def mvC (ep : Int) (l : List Pc) (r : Rg) (tt : Int) : Int × List Pc × Int :=
  if mayC ep l = true ∧ P.mayB r = true ∧ 1 ≤ tt ∧ tt ≤ 6 then moveEnd ep (moveGo r tt l [] false) else (0, [], 2)
theorem shardB_p (tt : Int) : shardB tt = true ↔ 1 ≤ tt ∧ tt ≤ 6 := by unfold shardB; rw [Bool.and_eq_true, decide_eq_true_eq, decide_eq_true_eq]
theorem move_ev (ep : Int) (l : List Pc) (r : Rg) (tt : Int) (h : l.length < 1000) : Ev (fun k => chart_Move.f k ep l r.f0 r.f1 tt) (mvC ep l r tt) := by
  unfold chart_Move.f mvC
  by_cases hc : mayC ep l = true ∧ P.mayB r = true ∧ 1 ≤ tt ∧ tt ≤ 6
  · rw [if_pos hc]
    refine Ev.bind (f := fun k t => if t = true ∧ P.mayB ⟨r.f0, r.f1⟩ = true ∧ shardB tt = true then (if l.length ≤ 100000 then some (moveEnd ep (moveGo ⟨r.f0, r.f1⟩ tt l [] false)) else none) else some (0, [], 2)) (may_ev ep l h) ?_
    rw [hc.1]
    refine Ev.congr (f := fun _ => some (moveEnd ep (moveGo r tt l [] false))) (fun k => ?_) (Ev.now _)
    rw [if_pos ⟨rfl, hc.2.1, (shardB_p tt).2 hc.2.2⟩, if_pos (by omega)]
  · rw [if_neg hc]
    refine Ev.bind (f := fun k t => if t = true ∧ P.mayB ⟨r.f0, r.f1⟩ = true ∧ shardB tt = true then (if l.length ≤ 100000 then some (moveEnd ep (moveGo ⟨r.f0, r.f1⟩ tt l [] false)) else none) else some (0, [], 2)) (may_ev ep l h) ?_
    refine Ev.congr (f := fun _ => some (0, [], 2)) (fun k => ?_) (Ev.now _)
    rw [if_neg (fun e => hc ⟨e.1, e.2.1, (shardB_p tt).1 e.2.2⟩)]
theorem rmove_ev (ep : Int) (l : List Pc) (r : Rg) (tt : Int) (h : l.length < 900) : Ev (fun k => racewayref15_Move.f k ep l r.f0 r.f1 tt) (mvC ep l r tt) := by
  unfold racewayref15_Move.f mvC
  by_cases hc : mayC ep l = true ∧ P.mayB r = true ∧ 1 ≤ tt ∧ tt ≤ 6
  · rw [if_pos hc]
    have hch : chOK 0 0 l = true := by
      have := hc.1
      unfold mayC at this
      simp only [Bool.and_eq_true] at this
      exact this.2.2
    have hb := bounds_ev (r :: l.map (·.f0)) (by simp; omega)
    have hbl := bnds_len (r :: l.map (·.f0))
    have hgo := rmGo_ev ep l r tt (by omega) (bnds (r :: l.map (·.f0))) [] false
    rw [both r tt ((may_p r).1 hc.2.1) l hch] at hgo
    refine Ev.bind (f := fun k t => if t = true ∧ P.mayB ⟨r.f0, r.f1⟩ = true ∧ 1 ≤ tt ∧ tt ≤ 6 then (if l.length ≤ 100000 then (racewayref04_Bounds.f k (⟨r.f0, r.f1⟩ :: l.map (·.f0))).bind fun b => (if b.length ≤ 300000 then (rmGo k ep l ⟨r.f0, r.f1⟩ tt b [] false).bind fun x => some (moveEnd ep x) else none) else none) else some (0, [], 2)) (rmay_ev ep l (by omega)) ?_
    rw [hc.1]
    refine Ev.congr (f := fun k => (racewayref04_Bounds.f k (r :: l.map (·.f0))).bind fun b => (if b.length ≤ 300000 then (rmGo k ep l r tt b [] false).bind fun x => some (moveEnd ep x) else none)) (fun k => ?_) ?_
    · rw [if_pos ⟨rfl, hc.2⟩, if_pos (by omega)]
    · refine Ev.bind (f := fun k b => if b.length ≤ 300000 then (rmGo k ep l r tt b [] false).bind fun x => some (moveEnd ep x) else none) hb ?_
      refine Ev.congr (f := fun k => (rmGo k ep l r tt (bnds (r :: l.map (·.f0))) [] false).bind fun x => some (moveEnd ep x)) (fun k => ?_) ?_
      · rw [if_pos (by simp at hbl; omega)]
      · exact Ev.bind (f := fun _ x => some (moveEnd ep x)) hgo (Ev.now _)
  · rw [if_neg hc]
    refine Ev.bind (f := fun k t => if t = true ∧ P.mayB ⟨r.f0, r.f1⟩ = true ∧ 1 ≤ tt ∧ tt ≤ 6 then (if l.length ≤ 100000 then (racewayref04_Bounds.f k (⟨r.f0, r.f1⟩ :: l.map (·.f0))).bind fun b => (if b.length ≤ 300000 then (rmGo k ep l ⟨r.f0, r.f1⟩ tt b [] false).bind fun x => some (moveEnd ep x) else none) else none) else some (0, [], 2)) (rmay_ev ep l (by omega)) ?_
    refine Ev.congr (f := fun _ => some (0, [], 2)) (fun k => ?_) (Ev.now _)
    rw [if_neg (fun e => hc e)]
end Go.Proofs.Yteppmdafdopehaa.P.C4
