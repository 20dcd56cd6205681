/- The plain law: what the references of layer 4 come to: Find, Cut, Bounds, Covers, Join, the same as the program's. No program in sight; lists of at most some hundreds. -/
import Derived.Test.YtimlagmgcfaepaaPCover04
import Derived.Test.YtimlagmgcfaepaaP11
import Derived.Test.YtimlagmgcfaepaaP15
import Derived.Test.YtimlagmgcfaepaaP14
import Derived.Test.YtimlagmgcfaepaaP16
namespace Go.Proofs.Ytimlagmgcfaepaa.P
open Go.RowKit Go.Proofs.YtimlagmgcfaepaaW.PrintWords Go.Proofs.YtimlagmgcfaepaaW.PrintLast
set_option linter.unusedVariables false

theorem rmay_f (x : Rg) : racewayref04_May.f x.f0 x.f1 = some (mayB x) := by
  unfold racewayref04_May.f mayB MayP
  by_cases h1 : 0 ≤ x.f0 <;> by_cases h2 : x.f0 < x.f1 <;> by_cases h3 : x.f1 ≤ 65536 <;> simp [h1, h2, h3]
theorem rin_f (x : Rg) (p : Int) : racewayref04_In.f x.f0 x.f1 p = some (decide (InP x p)) := by
  unfold racewayref04_In.f InP
  rw [rmay_f]
  by_cases h0 : MayP x <;> by_cases h1 : x.f0 ≤ p <;> by_cases h2 : p < x.f1 <;> simp [mayB, h0, h1, h2]

/-! Find -/
theorem rfind_loop (p : Int) (l : List Rg) (h : l.length < 1000) (d : Nat) : ∀ i : Nat, i + d = l.length → (∀ j (hj : j < i) (hl : j < l.length), ¬ InP l[j] p) →
    Ev (fun k => racewayref04_Find.l0 k l p (i : Int)) (findI p l) := by
  induction d with
  | zero =>
    intro i hi hno
    have e : findI p l = -1 := by
      unfold findI
      rw [findB_none p l (fun j hj => by
        have := hno j (by omega) hj
        rw [List.getD_eq_getElem?_getD, List.getElem?_eq_getElem hj]
        cases hb : inB l[j] p with
        | false => exact hb
        | true => exact absurd ((inB_iff _ _).1 hb) this)]
    refine Ev.step (f := fun _ => some (findI p l)) (fun k => ?_) (Ev.now _)
    simp only [racewayref04_Find.l0]
    rw [if_neg (by omega), e]
  | succ d ih =>
    intro i hi hno
    have hlt : i < l.length := by omega
    by_cases hp : InP l[i] p
    · have e : findI p l = (i : Int) := by
        unfold findI
        rw [findB_some p l i hlt (fun j hj => by
          have := hno j hj (by omega)
          rw [List.getD_eq_getElem?_getD, List.getElem?_eq_getElem (by omega)]
          cases hb : inB l[j] p with
          | false => exact hb
          | true => exact absurd ((inB_iff _ _).1 hb) this) (by
          rw [List.getD_eq_getElem?_getD, List.getElem?_eq_getElem hlt]
          exact (inB_iff _ _).2 hp)]
      refine Ev.step (f := fun _ => some (findI p l)) (fun k => ?_) (Ev.now _)
      simp only [racewayref04_Find.l0]
      rw [if_pos (by omega), if_pos (by omega), rd_nat l i hlt, rin_f]
      simp [hp, e]
    · have h2 := ih (i + 1) (by omega) (fun j hj hl => by
        by_cases e : j = i
        · subst e; exact hp
        · exact hno j (by omega) hl)
      refine Ev.step (fun k => ?_) h2
      simp only [racewayref04_Find.l0]
      rw [if_pos (by omega), if_pos (by omega), rd_nat l i hlt, rin_f]
      simp only [hp, decide_false, Option.bind_some, Bool.false_eq_true, if_false]
      rw [w64_small (by omega) (by omega)]
      rfl
theorem rfind_ev (p : Int) (l : List Rg) (h : l.length < 1000) : Ev (fun k => racewayref04_Find.f k l p) (findI p l) :=
  rfind_loop p l h l.length 0 (by omega) (fun j hj => absurd hj (Nat.not_lt_zero _))

/-! Cut -/
def cutPart (r x : Rg) : List Rg := (cutOne r x).filter mayB
theorem cutPart_may (r x : Rg) (h : ¬ MayP x) : cutPart r x = [] := by
  unfold cutPart cutOne
  have e : meetR x r = ⟨0, 0⟩ := by unfold meetR; rw [if_neg (fun h2 => h h2.1)]
  rw [e]
  simp [mayB, h]
theorem cutPart_off (r x : Rg) (h : MayP x) (h2 : ¬ MayP r ∨ r.f1 ≤ x.f0 ∨ x.f1 ≤ r.f0) : cutPart r x = [x] := by
  unfold cutPart cutOne
  have e : meetR x r = ⟨0, 0⟩ := by
    unfold meetR
    rw [if_neg]
    rintro ⟨_, h3, h4⟩
    unfold MayP mx mn at *
    simp only at h4
    split at h4 <;> split at h4 <;> omega
  rw [e]
  simp [mayB, h]
theorem cutPart_on (r x : Rg) (h : MayP x) (h2 : MayP r) (h3 : x.f0 < r.f1) (h4 : r.f0 < x.f1) :
    cutPart r x = (if x.f0 < r.f0 then [⟨x.f0, r.f0⟩] else []) ++ (if r.f1 < x.f1 then [⟨r.f1, x.f1⟩] else []) := by
  unfold cutPart cutOne
  have hx := h
  have hr := h2
  unfold MayP at hx hr
  have hm : MayP ⟨mx x.f0 r.f0, mn x.f1 r.f1⟩ := by
    unfold MayP mx mn
    simp only
    split <;> split <;> omega
  have e : meetR x r = ⟨mx x.f0 r.f0, mn x.f1 r.f1⟩ := by unfold meetR; rw [if_pos ⟨h, h2, hm⟩]
  have hz : ¬ ((meetR x r).f0 = 0 ∧ (meetR x r).f1 = 0) := by
    rw [e]
    unfold MayP at hm
    simp only at hm ⊢
    omega
  rw [if_neg hz, e]
  have e1 : mayB ⟨x.f0, mx x.f0 r.f0⟩ = decide (x.f0 < r.f0) := by
    unfold mayB
    rw [decide_eq_decide]
    unfold MayP mx
    simp only
    split <;> omega
  have e2 : mayB ⟨mn x.f1 r.f1, x.f1⟩ = decide (r.f1 < x.f1) := by
    unfold mayB
    rw [decide_eq_decide]
    unfold MayP mn
    simp only
    split <;> omega
  simp only [List.filter_cons, List.filter_nil, e1, e2]
  by_cases a : x.f0 < r.f0 <;> by_cases b : r.f1 < x.f1
  · have m1 : mx x.f0 r.f0 = r.f0 := by unfold mx; rw [if_pos a]
    have m2 : mn x.f1 r.f1 = r.f1 := by unfold mn; rw [if_pos b]
    simp [a, b, m1, m2]
  · have m1 : mx x.f0 r.f0 = r.f0 := by unfold mx; rw [if_pos a]
    simp [a, b, m1]
  · have m2 : mn x.f1 r.f1 = r.f1 := by unfold mn; rw [if_pos b]
    simp [a, b, m2]
  · simp [a, b]

theorem rcut_loop (r : Rg) (l : List Rg) (h : l.length < 1000) (d : Nat) : ∀ i : Nat, i + d = l.length →
    Ev (fun k => racewayref04_Cut.l0 k l (cutL r (l.take i)) (i : Int) r.f0 r.f1) (cutL r l) := by
  induction d with
  | zero =>
    intro i hi
    have e : i = l.length := by omega
    subst e
    rw [List.take_length]
    refine Ev.step (f := fun _ => some (cutL r l)) (fun k => ?_) (Ev.now _)
    simp only [racewayref04_Cut.l0]
    rw [if_neg (by omega)]
  | succ d ih =>
    intro i hi
    have hlt : i < l.length := by omega
    have hal := cutL_len r (l.take i)
    rw [List.length_take] at hal
    have ht : l.take (i + 1) = l.take i ++ [l[i]] := List.take_succ_eq_append_getElem hlt
    have hc : cutL r (l.take (i + 1)) = cutL r (l.take i) ++ cutPart r l[i] := by
      rw [ht]
      unfold cutL cutPart
      rw [List.flatMap_append]
      simp
    have h2 := ih (i + 1) (by omega)
    rw [hc] at h2
    generalize hA : cutL r (l.take i) = acc at h2 hal ⊢
    have hw : wrap64 ((i : Int) + 1) = ((i + 1 : Nat) : Int) := by rw [w64_small (by omega) (by omega)]; rfl
    by_cases hx : MayP l[i]
    · -- the piece, by the join
      have hoff : (¬ MayP r ∨ r.f1 ≤ l[i].f0 ∨ l[i].f1 ≤ r.f0) → Ev (fun k => racewayref04_Cut.j1 k l acc (i : Int) true r.f0 r.f1 l[i].f0 l[i].f1) (cutL r l) := by
        intro ho
        rw [cutPart_off r l[i] hx ho] at h2
        refine Ev.step (fun k => ?_) h2
        simp only [racewayref04_Cut.j1, if_true]
        rw [if_pos (by omega), hw]
      have hon : MayP r → l[i].f0 < r.f1 → r.f0 < l[i].f1 → Ev (fun k => racewayref04_Cut.j1 k l acc (i : Int) false r.f0 r.f1 l[i].f0 l[i].f1) (cutL r l) := by
        intro hr h3 h4
        rw [cutPart_on r l[i] hx hr h3 h4] at h2
        refine Ev.step (fun k => ?_) h2
        simp only [racewayref04_Cut.j1, Bool.false_eq_true, if_false]
        by_cases a : l[i].f0 < r.f0 <;> by_cases b : r.f1 < l[i].f1
        · rw [if_pos a, if_pos a, if_pos b, if_pos (by omega)]
          simp only [Option.bind_some]
          rw [if_pos b, if_pos (by simp; omega), hw]
          simp
        · rw [if_pos a, if_pos a, if_neg b, if_pos (by omega)]
          simp only [Option.bind_some]
          rw [if_neg b, hw]
          simp
        · rw [if_neg a, if_neg a, if_pos b, if_pos b, if_pos (by omega), hw]
          simp
        · rw [if_neg a, if_neg a, if_neg b, if_neg b, hw]
          simp
      have hstep : Ev (fun k => if mayB r = true then (if r.f1 ≤ l[i].f0 then racewayref04_Cut.j1 k l acc (i : Int) true r.f0 r.f1 l[i].f0 l[i].f1 else racewayref04_Cut.j1 k l acc (i : Int) (decide (l[i].f1 ≤ r.f0)) r.f0 r.f1 l[i].f0 l[i].f1) else racewayref04_Cut.j1 k l acc (i : Int) true r.f0 r.f1 l[i].f0 l[i].f1) (cutL r l) := by
        by_cases hr : MayP r
        · refine Ev.congr (fun k => if_pos ((mayB_iff r).2 hr)) ?_
          by_cases h3 : r.f1 ≤ l[i].f0
          · exact Ev.congr (fun k => if_pos h3) (hoff (.inr (.inl h3)))
          · refine Ev.congr (fun k => if_neg h3) ?_
            by_cases h4 : l[i].f1 ≤ r.f0
            · rw [decide_eq_true h4]
              exact hoff (.inr (.inr h4))
            · rw [decide_eq_false h4]
              exact hon hr (by omega) (by omega)
        · exact Ev.congr (fun k => if_neg (fun h => hr ((mayB_iff r).1 h))) (hoff (.inl hr))
      refine Ev.step (fun k => ?_) hstep
      simp only [racewayref04_Cut.l0]
      rw [if_pos (by omega), if_pos (by omega), rd_nat l i hlt, rmay_f, (mayB_iff _).2 hx]
      simp only [Option.bind_some, if_true]
      rw [rmay_f]
      rfl
    · rw [cutPart_may r l[i] hx, List.append_nil] at h2
      refine Ev.step (fun k => ?_) h2
      simp only [racewayref04_Cut.l0]
      rw [if_pos (by omega), if_pos (by omega), rd_nat l i hlt, rmay_f]
      have e : mayB l[i] = false := by unfold mayB; simp [hx]
      rw [e]
      simp only [Option.bind_some, Bool.false_eq_true, if_false]
      rw [hw]
theorem rcut_ev (r : Rg) (l : List Rg) (h : l.length < 1000) : Ev (fun k => racewayref04_Cut.f k l r.f0 r.f1) (cutL r l) := rcut_loop r l h l.length 0 (by omega)

/-! Bounds -/
def ins (n : Int) : List Int → List Int
  | [] => [n]
  | x :: xs => if n ≤ x then (if n < x then n :: x :: xs else x :: xs) else x :: ins n xs
theorem ins_len (n : Int) : ∀ l, (ins n l).length ≤ l.length + 1 := by
  intro l
  induction l with
  | nil => simp [ins]
  | cons x xs ih =>
    unfold ins
    split
    · split <;> simp
    · simp; exact ih
theorem ins_mem (n y : Int) : ∀ l, y ∈ ins n l ↔ y = n ∨ y ∈ l := by
  intro l
  induction l with
  | nil => simp [ins]
  | cons x xs ih =>
    unfold ins
    by_cases h1 : n ≤ x
    · rw [if_pos h1]
      by_cases h2 : n < x
      · rw [if_pos h2]; simp
      · rw [if_neg h2]
        have : n = x := by omega
        subst this
        simp
    · rw [if_neg h1, List.mem_cons, ih, List.mem_cons]
      constructor
      · rintro (h | h | h)
        · exact .inr (.inl h)
        · exact .inl h
        · exact .inr (.inr h)
      · rintro (h | h | h)
        · exact .inr (.inl h)
        · exact .inl h
        · exact .inr (.inr h)
theorem ins_rise (n : Int) : ∀ l, l.Pairwise (· < ·) → (ins n l).Pairwise (· < ·) := by
  intro l
  induction l with
  | nil => intro _; simp [ins]
  | cons x xs ih =>
    intro hp
    have hp0 := hp
    rw [List.pairwise_cons] at hp
    unfold ins
    by_cases h1 : n ≤ x
    · rw [if_pos h1]
      by_cases h2 : n < x
      · rw [if_pos h2, List.pairwise_cons]
        refine ⟨fun y hy => ?_, hp0⟩
        rcases List.mem_cons.1 hy with rfl | hy
        · exact h2
        · have := hp.1 y hy; omega
      · rw [if_neg h2]; exact hp0
    · rw [if_neg h1, List.pairwise_cons]
      refine ⟨fun y hy => ?_, ih hp.2⟩
      rcases (ins_mem n y xs).1 hy with rfl | hy
      · omega
      · exact hp.1 y hy

theorem rdi_nat (l : List Int) (i : Nat) (h : i < l.length) : rd l (i : Int) = l[i] := by
  unfold rd
  simp [h]
theorem into_put (l : List Int) (n : Int) (h : l.length < 100000) (d : Nat) : ∀ (i : Nat) (acc : List Int), i + d = l.length → acc.length ≤ i + 1 →
    Ev (fun k => racewayref04_into.l0 k l n acc true (i : Int)) (acc ++ l.drop i) := by
  induction d with
  | zero =>
    intro i acc hi ha
    have e : i = l.length := by omega
    subst e
    rw [List.drop_length, List.append_nil]
    refine Ev.step (f := fun _ => some acc) (fun k => ?_) (Ev.now _)
    simp only [racewayref04_into.l0]
    rw [if_neg (by omega)]
    simp
  | succ d ih =>
    intro i acc hi ha
    have hlt : i < l.length := by omega
    have h2 := ih (i + 1) (acc ++ [l[i]]) (by omega) (by simp; omega)
    rw [List.append_assoc] at h2
    have hd : l.drop i = l[i] :: l.drop (i + 1) := List.drop_eq_getElem_cons hlt
    rw [hd]
    refine Ev.step (f := fun k => racewayref04_into.j1 k l n acc true (i : Int) false) (fun k => ?_) (Ev.step (fun k => ?_) h2)
    · simp only [racewayref04_into.l0]
      rw [if_pos (by omega)]
      simp
    · simp only [racewayref04_into.j1, Bool.false_eq_true, if_false]
      rw [if_pos (by omega), if_pos (by omega), if_pos (by omega), rdi_nat l i hlt, w64_small (by omega) (by omega)]
      rfl
theorem into_loop (l : List Int) (n : Int) (h : l.length < 100000) (d : Nat) : ∀ (i : Nat) (acc : List Int), i + d = l.length → acc.length ≤ i →
    Ev (fun k => racewayref04_into.l0 k l n acc false (i : Int)) (acc ++ ins n (l.drop i)) := by
  induction d with
  | zero =>
    intro i acc hi ha
    have e : i = l.length := by omega
    subst e
    rw [List.drop_length]
    refine Ev.step (f := fun _ => some (acc ++ [n])) (fun k => ?_) (Ev.now _)
    simp only [racewayref04_into.l0]
    rw [if_neg (by omega)]
    simp only [Bool.false_eq_true, if_false]
    rw [if_pos (by omega)]
  | succ d ih =>
    intro i acc hi ha
    have hlt : i < l.length := by omega
    have hd : l.drop i = l[i] :: l.drop (i + 1) := List.drop_eq_getElem_cons hlt
    rw [hd]
    have hfirst : ∀ k, racewayref04_into.l0 (k + 1) l n acc false (i : Int) = racewayref04_into.j1 k l n acc false (i : Int) (decide (n ≤ l[i])) := by
      intro k
      simp only [racewayref04_into.l0, Bool.false_eq_true, if_false]
      rw [if_pos (by omega), if_pos (by omega), rdi_nat l i hlt]
    refine Ev.step hfirst ?_
    have hw : wrap64 ((i : Int) + 1) = ((i + 1 : Nat) : Int) := by rw [w64_small (by omega) (by omega)]; rfl
    unfold ins
    by_cases h1 : n ≤ l[i]
    · rw [decide_eq_true h1, if_pos h1]
      by_cases h2 : n < l[i]
      · rw [if_pos h2]
        have h3 := into_put l n h d (i + 1) (acc ++ [n] ++ [l[i]]) (by omega) (by simp; omega)
        have e : acc ++ n :: l[i] :: l.drop (i + 1) = acc ++ [n] ++ [l[i]] ++ l.drop (i + 1) := by simp
        rw [e]
        refine Ev.step (fun k => ?_) h3
        simp only [racewayref04_into.j1, if_true]
        rw [if_pos (by omega), if_pos (by omega), rdi_nat l i hlt, if_pos h2, if_pos (by omega)]
        simp only [Option.bind_some]
        rw [if_pos (by simp; omega), hw]
      · rw [if_neg h2]
        have h3 := into_put l n h d (i + 1) (acc ++ [l[i]]) (by omega) (by simp; omega)
        have e : acc ++ l[i] :: l.drop (i + 1) = acc ++ [l[i]] ++ l.drop (i + 1) := by simp
        rw [e]
        refine Ev.step (fun k => ?_) h3
        simp only [racewayref04_into.j1, if_true]
        rw [if_pos (by omega), if_pos (by omega), rdi_nat l i hlt, if_neg h2, if_pos (by omega), hw]
    · rw [decide_eq_false h1, if_neg h1]
      have h3 := ih (i + 1) (acc ++ [l[i]]) (by omega) (by simp; omega)
      have e : acc ++ l[i] :: ins n (l.drop (i + 1)) = acc ++ [l[i]] ++ ins n (l.drop (i + 1)) := by simp
      rw [e]
      refine Ev.step (fun k => ?_) h3
      simp only [racewayref04_into.j1, Bool.false_eq_true, if_false]
      rw [if_pos (by omega), if_pos (by omega), if_pos (by omega), rdi_nat l i hlt, hw]
theorem into_ev (l : List Int) (n : Int) (h : l.length < 100000) : Ev (fun k => racewayref04_into.f k l n) (ins n l) := by
  have h1 := into_loop l n h l.length 0 [] (by omega) (by simp)
  rw [List.nil_append, List.drop_zero] at h1
  exact h1

def bstep (b : List Int) (x : Rg) : List Int := if mayB x = true then ins x.f1 (ins x.f0 b) else b
def bnds (l : List Rg) : List Int := l.foldl bstep [0]
theorem bstep_len (b : List Int) (x : Rg) : (bstep b x).length ≤ b.length + 2 := by
  unfold bstep
  split
  · have h1 := ins_len x.f1 (ins x.f0 b)
    have h2 := ins_len x.f0 b
    omega
  · omega
theorem bfold_len : ∀ (l : List Rg) (b : List Int), (l.foldl bstep b).length ≤ b.length + 2 * l.length := by
  intro l
  induction l with
  | nil => intro b; simp
  | cons x l ih =>
    intro b
    have h1 := ih (bstep b x)
    have h2 := bstep_len b x
    rw [List.foldl_cons, List.length_cons]
    omega
theorem bfold_rise : ∀ (l : List Rg) (b : List Int), b.Pairwise (· < ·) → (l.foldl bstep b).Pairwise (· < ·) := by
  intro l
  induction l with
  | nil => intro b h; exact h
  | cons x l ih =>
    intro b h
    rw [List.foldl_cons]
    refine ih _ ?_
    unfold bstep
    split
    · exact ins_rise _ _ (ins_rise _ _ h)
    · exact h
theorem bfold_mem (y : Int) : ∀ (l : List Rg) (b : List Int), y ∈ l.foldl bstep b ↔ y ∈ b ∨ ∃ x ∈ l, MayP x ∧ (y = x.f0 ∨ y = x.f1) := by
  intro l
  induction l with
  | nil => intro b; simp
  | cons x l ih =>
    intro b
    rw [List.foldl_cons, ih]
    have hb : y ∈ bstep b x ↔ y ∈ b ∨ MayP x ∧ (y = x.f0 ∨ y = x.f1) := by
      unfold bstep
      by_cases hx : MayP x
      · rw [if_pos ((mayB_iff x).2 hx), ins_mem, ins_mem]
        constructor
        · rintro (h | h | h)
          · exact .inr ⟨hx, .inr h⟩
          · exact .inr ⟨hx, .inl h⟩
          · exact .inl h
        · rintro (h | ⟨_, h | h⟩)
          · exact .inr (.inr h)
          · exact .inr (.inl h)
          · exact .inl h
      · rw [if_neg (fun h => hx ((mayB_iff x).1 h))]
        exact ⟨.inl, fun h => h.elim id (fun h => absurd h.1 hx)⟩
    rw [hb]
    constructor
    · rintro ((h | h) | ⟨z, hz, h⟩)
      · exact .inl h
      · exact .inr ⟨x, List.mem_cons_self, h⟩
      · exact .inr ⟨z, List.mem_cons_of_mem _ hz, h⟩
    · rintro (h | ⟨z, hz, h⟩)
      · exact .inl (.inl h)
      · rcases List.mem_cons.1 hz with rfl | hz
        · exact .inl (.inr h)
        · exact .inr ⟨z, hz, h⟩
theorem bounds_loop (l : List Rg) (h : l.length < 1000) (d : Nat) : ∀ i : Nat, i + d = l.length →
    Ev (fun k => racewayref04_Bounds.l0 k l ((l.take i).foldl bstep [0]) (i : Int)) (bnds l) := by
  induction d with
  | zero =>
    intro i hi
    have e : i = l.length := by omega
    subst e
    rw [List.take_length]
    refine Ev.step (f := fun _ => some (bnds l)) (fun k => ?_) (Ev.now _)
    simp only [racewayref04_Bounds.l0]
    rw [if_neg (by omega)]
    rfl
  | succ d ih =>
    intro i hi
    have hlt : i < l.length := by omega
    have ht : l.take (i + 1) = l.take i ++ [l[i]] := List.take_succ_eq_append_getElem hlt
    have h2 := ih (i + 1) (by omega)
    rw [ht, List.foldl_append] at h2
    have hb := bfold_len (l.take i) [0]
    rw [List.length_take] at hb
    simp only [List.length_cons, List.length_nil] at hb
    generalize (l.take i).foldl bstep [0] = b at h2 hb ⊢
    simp only [List.foldl_cons, List.foldl_nil] at h2
    have hw : wrap64 ((i : Int) + 1) = ((i + 1 : Nat) : Int) := by rw [w64_small (by omega) (by omega)]; rfl
    unfold bstep at h2
    cases hm : mayB l[i] with
    | true =>
      rw [if_pos hm] at h2
      have h3 := ins_len l[i].f0 b
      have h4 := Ev.bind (f := fun k a => (racewayref04_into.f k a l[i].f1).bind fun c => racewayref04_Bounds.l0 k l c ((i + 1 : Nat) : Int)) (into_ev b l[i].f0 (by omega)) (Ev.bind (into_ev (ins l[i].f0 b) l[i].f1 (by omega)) h2)
      refine Ev.step (fun k => ?_) h4
      simp only [racewayref04_Bounds.l0]
      rw [if_pos (by omega), if_pos (by omega), rd_nat l i hlt, rmay_f, hm]
      simp only [Option.bind_some, if_true]
      rw [hw]
    | false =>
      rw [if_neg (by simp [hm])] at h2
      refine Ev.step (fun k => ?_) h2
      simp only [racewayref04_Bounds.l0]
      rw [if_pos (by omega), if_pos (by omega), rd_nat l i hlt, rmay_f, hm]
      simp only [Option.bind_some, Bool.false_eq_true, if_false]
      rw [hw]
theorem bounds_ev (l : List Rg) (h : l.length < 1000) : Ev (fun k => racewayref04_Bounds.f k l) (bnds l) := bounds_loop l h l.length 0 (by omega)
theorem bnds_mem (l : List Rg) (y : Int) : y ∈ bnds l ↔ y = 0 ∨ ∃ x ∈ l, MayP x ∧ (y = x.f0 ∨ y = x.f1) := by
  unfold bnds
  rw [bfold_mem]
  simp
theorem bnds_rise (l : List Rg) : (bnds l).Pairwise (· < ·) := bfold_rise l [0] (by simp)
theorem bnds_len (l : List Rg) : (bnds l).length ≤ 1 + 2 * l.length := by
  have h1 := bfold_len l [0]
  unfold bnds
  simpa using h1

/-! Covers: between two bounds nothing begins or ends -/
theorem same_between (x : Rg) (b p : Int) (hb : b ≤ p) (h : ∀ e, MayP x → (e = x.f0 ∨ e = x.f1) → e ≤ b ∨ p < e) : InP x p ↔ InP x b := by
  unfold InP
  constructor
  · rintro ⟨hm, h1, h2⟩
    have a1 := h x.f0 hm (.inl rfl)
    have a2 := h x.f1 hm (.inr rfl)
    exact ⟨hm, by omega, by omega⟩
  · rintro ⟨hm, h1, h2⟩
    have a1 := h x.f0 hm (.inl rfl)
    have a2 := h x.f1 hm (.inr rfl)
    exact ⟨hm, by omega, by omega⟩
theorem cnt_between (l : List Rg) (b p : Int) (hb : b ≤ p) (h : ∀ x ∈ l, ∀ e, MayP x → (e = x.f0 ∨ e = x.f1) → e ≤ b ∨ p < e) : cnt p l = cnt b l := by
  unfold cnt
  apply List.countP_congr
  intro x hx
  simp only [inD, decide_eq_true_eq]
  exact same_between x b p hb (h x hx)
/-- The greatest of a list's numbers that is not above p. -/
theorem below_max (p : Int) : ∀ (b : List Int), (∃ y ∈ b, y ≤ p) → ∃ y ∈ b, y ≤ p ∧ ∀ z ∈ b, z ≤ y ∨ p < z := by
  intro b
  induction b with
  | nil => rintro ⟨y, hy, _⟩; cases hy
  | cons x b ih =>
    intro h
    by_cases hb : ∃ y ∈ b, y ≤ p
    · obtain ⟨y, hy, hp, hm⟩ := ih hb
      by_cases hx : x ≤ p ∧ y < x
      · refine ⟨x, List.mem_cons_self, hx.1, fun z hz => ?_⟩
        rcases List.mem_cons.1 hz with rfl | hz
        · exact .inl (Int.le_refl _)
        · rcases hm z hz with h | h
          · exact .inl (by omega)
          · exact .inr h
      · refine ⟨y, List.mem_cons_of_mem _ hy, hp, fun z hz => ?_⟩
        rcases List.mem_cons.1 hz with rfl | hz
        · omega
        · exact hm z hz
    · obtain ⟨y, hy, hp⟩ := h
      rcases List.mem_cons.1 hy with rfl | hy
      · refine ⟨y, List.mem_cons_self, hp, fun z hz => ?_⟩
        rcases List.mem_cons.1 hz with rfl | hz
        · exact .inl (Int.le_refl _)
        · by_cases h : z ≤ p
          · exact absurd ⟨z, hz, h⟩ hb
          · exact .inr (by omega)
      · exact absurd ⟨y, hy, hp⟩ hb
def BTiles (l : List Rg) : Prop := (∀ x ∈ l, MayP x) ∧ ∀ b ∈ bnds l, b < 65536 → cnt b l = 1
instance (l : List Rg) : Decidable (BTiles l) := inferInstanceAs (Decidable (_ ∧ _))
theorem btiles_iff (l : List Rg) : BTiles l ↔ Tiles l := by
  rw [tiles_iff]
  unfold BTiles TilesP
  constructor
  · rintro ⟨hm, hb⟩
    refine ⟨hm, fun p h0 h1 => ?_⟩
    obtain ⟨y, hy, hyp, hmax⟩ := below_max p (bnds l) ⟨0, (bnds_mem l 0).2 (.inl rfl), h0⟩
    rw [cnt_between l y p hyp (fun x hx e hmx he => hmax e ((bnds_mem l e).2 (.inr ⟨x, hx, hmx, he⟩)))]
    exact hb y hy (by omega)
  · rintro ⟨hm, hc⟩
    refine ⟨hm, fun b hb h => hc b ?_ h⟩
    rcases (bnds_mem l b).1 hb with rfl | ⟨x, _, hx, he⟩
    · exact Int.le_refl _
    · unfold MayP at hx; omega

theorem rcov_l2 (l : List Rg) (b : List Int) (i : Nat) (hi : i < b.length) (hl : l.length < 1000) (hbl : b.length < 10000) (r : Bool)
    (hyes : (b[i] < 65536 → cnt b[i] l = 1) → Ev (fun k => racewayref04_Covers.l1 k l b ((i + 1 : Nat) : Int)) r)
    (hno : ¬ (b[i] < 65536 → cnt b[i] l = 1) → r = false) (d : Nat) : ∀ j : Nat, j + d = l.length →
    Ev (fun k => racewayref04_Covers.l2 k l b (i : Int) ((cnt b[i] (l.take j) : Nat) : Int) (j : Int)) r := by
  induction d with
  | zero =>
    intro j hj
    have e : j = l.length := by omega
    subst e
    rw [List.take_length]
    have hw : wrap64 ((i : Int) + 1) = ((i + 1 : Nat) : Int) := by rw [w64_small (by omega) (by omega)]; rfl
    by_cases h1 : b[i] < 65536
    · by_cases h2 : cnt b[i] l = 1
      · refine Ev.step (fun k => ?_) (hyes (fun _ => h2))
        simp only [racewayref04_Covers.l2]
        rw [if_neg (by omega), if_pos (by omega), if_pos (by omega), rdi_nat b i hi, if_pos h1, if_pos (by omega), hw]
      · have hr := hno (fun h => h2 (h h1))
        subst hr
        refine Ev.step (f := fun _ => some false) (fun k => ?_) (Ev.now _)
        simp only [racewayref04_Covers.l2]
        rw [if_neg (by omega), if_pos (by omega), if_pos (by omega), rdi_nat b i hi, if_pos h1, if_neg (by omega)]
    · refine Ev.step (fun k => ?_) (hyes (fun h => absurd h h1))
      simp only [racewayref04_Covers.l2]
      rw [if_neg (by omega), if_pos (by omega), if_pos (by omega), rdi_nat b i hi, if_neg h1, hw]
  | succ d ih =>
    intro j hj
    have hlt : j < l.length := by omega
    have ht : l.take (j + 1) = l.take j ++ [l[j]] := List.take_succ_eq_append_getElem hlt
    have h2 := ih (j + 1) (by omega)
    have hc : cnt b[i] (l.take (j + 1)) = cnt b[i] (l.take j) + if InP l[j] b[i] then 1 else 0 := by
      rw [ht]
      unfold cnt
      rw [List.countP_append]
      by_cases h : InP l[j] b[i] <;> simp [inD, h]
    have hle : cnt b[i] (l.take j) ≤ j := by
      unfold cnt
      have := List.countP_le_length (p := inD b[i]) (l := l.take j)
      rw [List.length_take] at this
      omega
    rw [hc] at h2
    generalize cnt b[i] (l.take j) = c at h2 hle ⊢
    have hw : wrap64 ((j : Int) + 1) = ((j + 1 : Nat) : Int) := by rw [w64_small (by omega) (by omega)]; rfl
    by_cases hp : InP l[j] b[i]
    · rw [if_pos hp] at h2
      refine Ev.step (fun k => ?_) h2
      simp only [racewayref04_Covers.l2]
      rw [if_pos (by omega), if_pos (by omega), if_pos (by omega), if_pos (by omega), rd_nat l j hlt, rdi_nat b i hi, rin_f]
      simp only [hp, decide_true, Option.bind_some, if_true]
      rw [hw, w64_small (i := (c : Int) + 1) (by omega) (by omega)]
      rfl
    · rw [if_neg hp] at h2
      refine Ev.step (fun k => ?_) h2
      simp only [racewayref04_Covers.l2]
      rw [if_pos (by omega), if_pos (by omega), if_pos (by omega), if_pos (by omega), rd_nat l j hlt, rdi_nat b i hi, rin_f]
      simp only [hp, decide_false, Option.bind_some, Bool.false_eq_true, if_false]
      rw [hw]
      rfl
theorem rcov_l1 (l : List Rg) (b : List Int) (hl : l.length < 1000) (hbl : b.length < 10000) (d : Nat) : ∀ i : Nat, i + d = b.length →
    Ev (fun k => racewayref04_Covers.l1 k l b (i : Int)) (decide (∀ y ∈ b.drop i, y < 65536 → cnt y l = 1)) := by
  induction d with
  | zero =>
    intro i hi
    have e : i = b.length := by omega
    subst e
    rw [List.drop_length]
    refine Ev.step (f := fun _ => some true) (fun k => ?_) ?_
    · simp only [racewayref04_Covers.l1]
      rw [if_neg (by omega)]
    · simpa using Ev.now true
  | succ d ih =>
    intro i hi
    have hlt : i < b.length := by omega
    have hd : b.drop i = b[i] :: b.drop (i + 1) := List.drop_eq_getElem_cons hlt
    have h2 := ih (i + 1) (by omega)
    have h3 := rcov_l2 l b i hlt hl hbl (decide (∀ y ∈ b.drop i, y < 65536 → cnt y l = 1)) (fun hy => by
      have e : (∀ y ∈ b.drop i, y < 65536 → cnt y l = 1) ↔ ∀ y ∈ b.drop (i + 1), y < 65536 → cnt y l = 1 := by
        rw [hd]
        constructor
        · intro h y hm
          exact h y (List.mem_cons_of_mem _ hm)
        · intro h y hm
          rcases List.mem_cons.1 hm with rfl | hm
          · exact hy
          · exact h y hm
      rw [decide_eq_decide.2 e]
      exact h2) (fun hno => by
      apply decide_eq_false
      intro h
      exact hno (h b[i] (by rw [hd]; exact List.mem_cons_self))) l.length 0 (by omega)
    refine Ev.step (fun k => ?_) h3
    simp only [racewayref04_Covers.l1]
    rw [if_pos (by omega)]
    rfl
theorem rcov_l0 (l : List Rg) (b : List Int) (hl : l.length < 1000) (hbl : b.length < 10000) (d : Nat) : ∀ i : Nat, i + d = l.length →
    Ev (fun k => racewayref04_Covers.l0 k l b (i : Int)) (decide ((∀ x ∈ l.drop i, MayP x) ∧ ∀ y ∈ b, y < 65536 → cnt y l = 1)) := by
  induction d with
  | zero =>
    intro i hi
    have e : i = l.length := by omega
    subst e
    rw [List.drop_length]
    have h1 := rcov_l1 l b hl hbl b.length 0 (by omega)
    rw [List.drop_zero] at h1
    refine Ev.step (fun k => ?_) (by simpa using h1)
    simp only [racewayref04_Covers.l0]
    rw [if_neg (by omega)]
  | succ d ih =>
    intro i hi
    have hlt : i < l.length := by omega
    have hd : l.drop i = l[i] :: l.drop (i + 1) := List.drop_eq_getElem_cons hlt
    have h2 := ih (i + 1) (by omega)
    rw [hd]
    by_cases hm : MayP l[i]
    · have e : ((∀ x ∈ l[i] :: l.drop (i + 1), MayP x) ∧ ∀ y ∈ b, y < 65536 → cnt y l = 1) ↔ ((∀ x ∈ l.drop (i + 1), MayP x) ∧ ∀ y ∈ b, y < 65536 → cnt y l = 1) := by
        constructor
        · rintro ⟨h1, h2⟩
          exact ⟨fun x hx => h1 x (List.mem_cons_of_mem _ hx), h2⟩
        · rintro ⟨h1, h2⟩
          refine ⟨fun x hx => ?_, h2⟩
          rcases List.mem_cons.1 hx with rfl | hx
          · exact hm
          · exact h1 x hx
      rw [decide_eq_decide.2 e]
      refine Ev.step (fun k => ?_) h2
      simp only [racewayref04_Covers.l0]
      rw [if_pos (by omega), if_pos (by omega), rd_nat l i hlt, rmay_f, (mayB_iff _).2 hm]
      simp only [Option.bind_some, if_true]
      rw [w64_small (by omega) (by omega)]
      rfl
    · rw [decide_eq_false (fun h => hm (h.1 _ List.mem_cons_self))]
      refine Ev.step (f := fun _ => some false) (fun k => ?_) (Ev.now _)
      simp only [racewayref04_Covers.l0]
      rw [if_pos (by omega), if_pos (by omega), rd_nat l i hlt, rmay_f]
      have e : mayB l[i] = false := by unfold mayB; simp [hm]
      rw [e]
      rfl
theorem rcovers_ev (l : List Rg) (h : l.length < 1000) : Ev (fun k => racewayref04_Covers.f k l) (decide (Tiles l)) := by
  have hb := bnds_len l
  have h1 := rcov_l0 l (bnds l) h (by omega) l.length 0 (by omega)
  rw [List.drop_zero] at h1
  have e := btiles_iff l
  unfold BTiles at e
  rw [decide_eq_decide.2 e] at h1
  unfold racewayref04_Covers.f
  exact Ev.bind (bounds_ev l h) h1

/-! Join: from bound to bound -/
def jstep (cov : Bool) (x y : Int) (acc : List Rg) : List Rg :=
  if cov = true then (match acc with
    | [] => [⟨x, y⟩]
    | z :: r => if z.f1 = x then ⟨z.f0, y⟩ :: r else ⟨x, y⟩ :: z :: r) else acc
def covB (l : List Rg) (x : Int) : Bool := decide (0 ≤ findI x l)
def gj (l : List Rg) : List Int → List Rg → List Rg
  | x :: y :: rest, acc => gj l (y :: rest) (jstep (covB l x) x y acc)
  | _, acc => acc
theorem jstep_len (c : Bool) (x y : Int) (acc : List Rg) : (jstep c x y acc).length ≤ acc.length + 1 := by
  unfold jstep
  split
  · cases acc with
    | nil => simp
    | cons z r => simp only; split <;> simp
  · omega
/-- What is put together from bound to bound is in normal form, and has just the places of l. -/
theorem gj_norm (l : List Rg) : ∀ (b : List Int) (acc : List Rg) (x : Int), (x :: b).Pairwise (· < ·) → (∀ y ∈ x :: b, 0 ≤ y ∧ y ≤ 65536) →
    (∀ z ∈ l, MayP z → (z.f0 ≤ x ∨ z.f0 ∈ b) ∧ (z.f1 ≤ x ∨ z.f1 ∈ b)) → NormR acc → (∀ z ∈ acc, z.f1 ≤ x) → (∀ p, PtP acc p ↔ PtP l p ∧ p < x) →
    NormR (gj l (x :: b) acc) ∧ ∀ p, PtP (gj l (x :: b) acc) p ↔ PtP l p := by
  intro b
  induction b with
  | nil =>
    intro acc x _ _ he hn _ hpt
    refine ⟨hn, fun p => ?_⟩
    show PtP acc p ↔ _
    rw [hpt]
    constructor
    · exact fun h => h.1
    · intro h
      refine ⟨h, ?_⟩
      obtain ⟨z, hz, hm, h1, h2⟩ := h
      have := (he z hz hm).2
      simp at this
      omega
  | cons y b ih =>
    intro acc x hp hr he hn hle hpt
    have hp0 := hp
    rw [List.pairwise_cons] at hp
    have hxy := hp.1 y List.mem_cons_self
    have hgt : ∀ e, e ≤ x ∨ e ∈ y :: b → e ≤ x ∨ y ≤ e := by
      rintro e (h | h)
      · exact .inl h
      · rcases List.mem_cons.1 h with rfl | h
        · exact .inr (Int.le_refl _)
        · have := (List.pairwise_cons.1 hp.2).1 e h
          exact .inr (by omega)
    have hsame : ∀ p, x ≤ p → p < y → (PtP l p ↔ PtP l x) := by
      intro p h1 h2
      have hh : ∀ z ∈ l, InP z p ↔ InP z x := fun z hz => same_between z x p h1 (fun e hm he' => by
        have h3 := he z hz hm
        rcases he' with rfl | rfl
        · rcases hgt _ h3.1 with h | h
          · exact .inl h
          · exact .inr (by omega)
        · rcases hgt _ h3.2 with h | h
          · exact .inl h
          · exact .inr (by omega))
      constructor
      · rintro ⟨z, hz, h⟩
        exact ⟨z, hz, (hh z hz).1 h⟩
      · rintro ⟨z, hz, h⟩
        exact ⟨z, hz, (hh z hz).2 h⟩
    have hcov : covB l x = true ↔ PtP l x := by
      unfold covB
      rw [decide_eq_true_eq, findI_nonneg]
      rfl
    have hrx := hr x List.mem_cons_self
    have hry := hr y (List.mem_cons_of_mem _ List.mem_cons_self)
    refine ih (jstep (covB l x) x y acc) y hp.2 (fun z hz => hr z (List.mem_cons_of_mem _ hz)) (fun z hz hm => ?_) ?_ ?_ ?_
    · have h3 := he z hz hm
      have f : ∀ e, e ≤ x ∨ e ∈ y :: b → e ≤ y ∨ e ∈ b := by
        rintro e (h | h)
        · exact .inl (by omega)
        · rcases List.mem_cons.1 h with rfl | h
          · exact .inl (Int.le_refl _)
          · exact .inr h
      exact ⟨f _ h3.1, f _ h3.2⟩
    · unfold jstep
      split
      · cases acc with
        | nil => exact ⟨by unfold MayP; simp only; omega, trivial, fun z hz => by cases hz⟩
        | cons z r =>
          obtain ⟨hz, hnr, hg⟩ := hn
          have hz1 := hle z List.mem_cons_self
          have hz' := hz
          unfold MayP at hz'
          simp only
          split
          · exact ⟨by unfold MayP; simp only; omega, hnr, hg⟩
          · rename_i hne
            refine ⟨by unfold MayP; simp only; omega, ⟨hz, hnr, hg⟩, fun q hq => ?_⟩
            simp only
            rcases List.mem_cons.1 hq with rfl | hq
            · omega
            · have := hg q hq
              have hq1 := hle q (List.mem_cons_of_mem _ hq)
              omega
      · exact hn
    · intro z hz
      unfold jstep at hz
      split at hz
      · cases acc with
        | nil =>
          rw [List.mem_singleton] at hz
          subst hz
          exact Int.le_refl _
        | cons q r =>
          simp only at hz
          split at hz
          · rcases List.mem_cons.1 hz with rfl | hz
            · exact Int.le_refl _
            · have := hle z (List.mem_cons_of_mem _ hz); omega
          · rcases List.mem_cons.1 hz with rfl | hz
            · exact Int.le_refl _
            · have := hle z hz; omega
      · have := hle z hz; omega
    · intro p
      by_cases hc : covB l x = true
      · have hin : InP ⟨x, y⟩ p ↔ x ≤ p ∧ p < y := by
          unfold InP MayP
          simp only
          omega
        have key : PtP (jstep (covB l x) x y acc) p ↔ PtP acc p ∨ (x ≤ p ∧ p < y) := by
          unfold jstep
          rw [if_pos hc]
          cases acc with
          | nil =>
            rw [pt_cons, hin]
            exact Or.comm
          | cons z r =>
            obtain ⟨hz, hnr, hg⟩ := hn
            have hz' := hz
            unfold MayP at hz'
            simp only
            split
            · rename_i heq
              have hj : InP ⟨z.f0, y⟩ p ↔ InP z p ∨ (x ≤ p ∧ p < y) := by
                unfold InP MayP
                simp only
                omega
              rw [pt_cons, pt_cons, hj]
              constructor
              · rintro ((h | h) | h)
                · exact .inl (.inl h)
                · exact .inr h
                · exact .inl (.inr h)
              · rintro ((h | h) | h)
                · exact .inl (.inl h)
                · exact .inr h
                · exact .inl (.inr h)
            · rw [pt_cons, hin]
              exact Or.comm
        rw [key, hpt]
        have hx := hcov.1 hc
        constructor
        · rintro (⟨h1, h2⟩ | ⟨h1, h2⟩)
          · exact ⟨h1, by omega⟩
          · exact ⟨(hsame p h1 h2).2 hx, h2⟩
        · rintro ⟨h1, h2⟩
          by_cases h3 : p < x
          · exact .inl ⟨h1, h3⟩
          · exact .inr ⟨by omega, h2⟩
      · have e : jstep (covB l x) x y acc = acc := by unfold jstep; rw [if_neg hc]
        rw [e, hpt]
        constructor
        · rintro ⟨h1, h2⟩
          exact ⟨h1, by omega⟩
        · rintro ⟨h1, h2⟩
          refine ⟨h1, ?_⟩
          by_cases h3 : p < x
          · exact h3
          · exact absurd (hcov.2 ((hsame p (by omega) h2).1 h1)) hc
theorem gj_join (l : List Rg) : gj l (bnds l) [] = joinR l := by
  have hr := bnds_rise l
  have hm := bnds_mem l
  have hall : ∀ y ∈ bnds l, 0 ≤ y ∧ y ≤ 65536 := by
    intro y hy
    rcases (hm y).1 hy with rfl | ⟨x, _, hx, he⟩
    · omega
    · unfold MayP at hx; omega
  have h0 : (0 : Int) ∈ bnds l := (hm 0).2 (.inl rfl)
  generalize hb : bnds l = b at *
  cases b with
  | nil => cases h0
  | cons x b =>
    have hx0 : x = 0 := by
      have h1 := (hall x List.mem_cons_self).1
      rcases List.mem_cons.1 h0 with h | h
      · exact h.symm
      · have := (List.pairwise_cons.1 hr).1 0 h; omega
    subst hx0
    obtain ⟨h1, h2⟩ := gj_norm l b [] 0 hr hall (fun z hz hmz => by
      have f : ∀ e, (e = z.f0 ∨ e = z.f1) → e ≤ 0 ∨ e ∈ b := by
        intro e he
        rcases List.mem_cons.1 ((hm e).2 (.inr ⟨z, hz, hmz, he⟩)) with h | h
        · exact .inl (by omega)
        · exact .inr h
      exact ⟨f _ (.inl rfl), f _ (.inr rfl)⟩) trivial (fun z hz => by cases hz) (fun p => by
      constructor
      · exact fun h => absurd h (pt_nil p)
      · rintro ⟨⟨z, _, hmz, h3, _⟩, h4⟩
        unfold MayP at hmz
        omega)
    exact (joinR_eq l _ h1 h2).symm

theorem rjoin_loop (l : List Rg) (b : List Int) (hl : l.length < 1000) (hb : b.length < 10000) (d : Nat) : ∀ (i : Nat) (acc : List Rg), i + d + 1 = b.length → acc.length ≤ i →
    Ev (fun k => racewayref04_Join.l0 k l b acc.reverse (i : Int)) (gj l (b.drop i) acc).reverse := by
  induction d with
  | zero =>
    intro i acc hi _
    have hd : b.drop i = [b[i]'(by omega)] := by
      rw [List.drop_eq_getElem_cons (by omega), List.drop_eq_nil_of_le (by omega)]
    rw [hd]
    refine Ev.step (f := fun _ => some acc.reverse) (fun k => ?_) (Ev.now _)
    simp only [racewayref04_Join.l0]
    rw [w64_small (by omega) (by omega), if_neg (by omega)]
  | succ d ih =>
    intro i acc hi ha
    have hlt : i < b.length := by omega
    have hlt2 : i + 1 < b.length := by omega
    have hd : b.drop i = b[i] :: b[i + 1] :: b.drop (i + 1 + 1) := by
      rw [List.drop_eq_getElem_cons hlt, List.drop_eq_getElem_cons hlt2]
    have hd2 : b.drop (i + 1) = b[i + 1] :: b.drop (i + 1 + 1) := List.drop_eq_getElem_cons hlt2
    have h2 := ih (i + 1) (jstep (covB l b[i]) b[i] b[i + 1] acc) (by omega) (by have := jstep_len (covB l b[i]) b[i] b[i + 1] acc; omega)
    rw [hd2] at h2
    have e : gj l (b.drop i) acc = gj l (b[i + 1] :: b.drop (i + 1 + 1)) (jstep (covB l b[i]) b[i] b[i + 1] acc) := by rw [hd]; rfl
    rw [e]
    have hw : wrap64 ((i : Int) + 1) = ((i + 1 : Nat) : Int) := by rw [w64_small (by omega) (by omega)]; rfl
    have hrd2 : rd b ((i + 1 : Nat) : Int) = b[i + 1] := rdi_nat b (i + 1) hlt2
    have hmain : Ev (fun k => if findI b[i] l < 0 then racewayref04_Join.l0 k l b acc.reverse ((i + 1 : Nat) : Int) else racewayref04_Join.l0 k l b (jstep true b[i] b[i + 1] acc).reverse ((i + 1 : Nat) : Int)) (gj l (b[i + 1] :: b.drop (i + 1 + 1)) (jstep (covB l b[i]) b[i] b[i + 1] acc)).reverse := by
      by_cases hf : findI b[i] l < 0
      · refine Ev.congr (fun k => if_pos hf) ?_
        have hc : covB l b[i] = false := by unfold covB; exact decide_eq_false (by omega)
        rw [hc] at h2 ⊢
        exact h2
      · refine Ev.congr (fun k => if_neg hf) ?_
        have hc : covB l b[i] = true := by unfold covB; exact decide_eq_true (by omega)
        rw [hc] at h2 ⊢
        exact h2
    have hb2 := Ev.bind (f := fun k t => if t < 0 then racewayref04_Join.l0 k l b acc.reverse ((i + 1 : Nat) : Int) else racewayref04_Join.l0 k l b (jstep true b[i] b[i + 1] acc).reverse ((i + 1 : Nat) : Int)) (rfind_ev b[i] l hl) hmain
    refine Ev.step (fun k => ?_) hb2
    simp only [racewayref04_Join.l0]
    rw [hw, if_pos (by omega), if_pos (by omega), if_pos (by omega), rdi_nat b i hlt, hrd2]
    congr 1
    funext t
    by_cases ht : t < 0
    · rw [if_pos ht, if_pos ht]
    · rw [if_neg ht, if_neg ht]
      unfold jstep
      simp only [if_true]
      cases acc with
      | nil =>
        rw [if_neg (by simp), if_pos (by omega), if_pos (by simp)]
        rfl
      | cons z r =>
        have hlen : (z :: r).reverse.length = r.length + 1 := by simp
        simp only [List.length_cons] at ha
        rw [if_pos (by omega), w64_small (i := ((z :: r).reverse.length : Int) - 1) (by omega) (by omega), if_pos (by omega), if_pos (by omega), last_rd]
        simp only
        by_cases hc : z.f1 = b[i]
        · rw [if_pos hc, if_pos hc, if_pos (by omega), last_set]
        · rw [if_neg hc, if_neg hc, if_pos (by omega), if_pos (by omega)]
          simp
theorem rjoin_ev (l : List Rg) (h : l.length < 1000) : Ev (fun k => racewayref04_Join.f k l) (joinL l) := by
  have hb := bnds_len l
  have h0 : 0 < (bnds l).length := List.length_pos_of_mem ((bnds_mem l 0).2 (.inl rfl))
  have h1 := rjoin_loop l (bnds l) h (by omega) ((bnds l).length - 1) 0 [] (by omega) (by simp)
  rw [List.drop_zero, gj_join] at h1
  unfold racewayref04_Join.f
  exact Ev.bind (bounds_ev l h) h1
end Go.Proofs.Ytimlagmgcfaepaa.P
