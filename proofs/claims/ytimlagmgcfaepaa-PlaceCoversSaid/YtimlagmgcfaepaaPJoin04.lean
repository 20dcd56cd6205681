/- The plain law: ranges in normal form; what sorted, Join, Covers of layer 4 come to. No program in sight; lists of at most some hundreds. -/
import Derived.Test.YtimlagmgcfaepaaPModel04
import Derived.Test.YtimlagmgcfaepaaGSort
import Derived.Test.YtimlagmgcfaepaaP7
import Derived.Test.YtimlagmgcfaepaaP8
import Derived.Test.YtimlagmgcfaepaaP9
namespace Go.Proofs.Ytimlagmgcfaepaa.P
open Go.RowKit Go.Proofs.YtimlagmgcfaepaaW.PrintWords Go.Proofs.YtimlagmgcfaepaaW.PrintLast
set_option linter.unusedVariables false

/-! normal form: reversed, what is last first -/
def NormR : List Rg → Prop
  | [] => True
  | x :: r => MayP x ∧ NormR r ∧ ∀ y ∈ r, y.f1 < x.f0
def PtP (l : List Rg) (p : Int) : Prop := ∃ x ∈ l, InP x p
theorem pt_nil (p : Int) : ¬ PtP [] p := by rintro ⟨x, hx, _⟩; cases hx
theorem pt_cons (x : Rg) (l : List Rg) (p : Int) : PtP (x :: l) p ↔ InP x p ∨ PtP l p := by
  unfold PtP
  constructor
  · rintro ⟨y, hy, hp⟩
    rcases List.mem_cons.1 hy with rfl | hy
    · exact .inl hp
    · exact .inr ⟨y, hy, hp⟩
  · rintro (h | ⟨y, hy, hp⟩)
    · exact ⟨x, List.mem_cons_self, h⟩
    · exact ⟨y, List.mem_cons_of_mem _ hy, hp⟩
theorem norm_may : ∀ (l : List Rg), NormR l → ∀ x ∈ l, MayP x := by
  intro l
  induction l with
  | nil => intro _ x hx; cases hx
  | cons y l ih =>
    intro h x hx
    rcases List.mem_cons.1 hx with rfl | hx
    · exact h.1
    · exact ih h.2.1 x hx
theorem rg_ext (x y : Rg) (h0 : x.f0 = y.f0) (h1 : x.f1 = y.f1) : x = y := by
  cases x; cases y; simp_all

/-- Two lists in normal form with the same places are one. -/
theorem norm_unique : ∀ (a b : List Rg), NormR a → NormR b → (∀ p, PtP a p ↔ PtP b p) → a = b := by
  intro a
  induction a with
  | nil =>
    intro b _ hb h
    cases b with
    | nil => rfl
    | cons y b =>
      have hm := hb.1
      exact absurd ((h y.f0).2 ⟨y, List.mem_cons_self, hm, by omega, by unfold MayP at hm; omega⟩) (pt_nil _)
  | cons x a ih =>
    intro b ha hb h
    cases b with
    | nil =>
      have hm := ha.1
      exact absurd ((h x.f0).1 ⟨x, List.mem_cons_self, hm, by omega, by unfold MayP at hm; omega⟩) (pt_nil _)
    | cons y b =>
      obtain ⟨hx, hna, hga⟩ := ha
      obtain ⟨hy, hnb, hgb⟩ := hb
      have pa : ∀ p, PtP a p → p + 1 < x.f0 := by
        rintro p ⟨z, hz, _, _, h2⟩
        have := hga z hz
        omega
      have pb : ∀ p, PtP b p → p + 1 < y.f0 := by
        rintro p ⟨z, hz, _, _, h2⟩
        have := hgb z hz
        omega
      have hx' := hx
      have hy' := hy
      unfold MayP at hx' hy'
      have e1 : x.f1 = y.f1 := by
        have h1 := (h (x.f1 - 1)).1 ((pt_cons _ _ _).2 (.inl ⟨hx, by omega, by omega⟩))
        have h2 := (h (y.f1 - 1)).2 ((pt_cons _ _ _).2 (.inl ⟨hy, by omega, by omega⟩))
        rcases (pt_cons _ _ _).1 h1 with h1 | h1 <;> rcases (pt_cons _ _ _).1 h2 with h2 | h2
        · have := h1.2.2; have := h2.2.2; omega
        · have := h1.2.2; have := pa _ h2; omega
        · have := pb _ h1; have := h2.2.2; omega
        · have := pb _ h1; have := pa _ h2; omega
      have e0 : x.f0 = y.f0 := by
        rcases Int.lt_trichotomy x.f0 y.f0 with hlt | heq | hgt
        · have h1 := (h (y.f0 - 1)).1 ((pt_cons _ _ _).2 (.inl ⟨hx, by omega, by omega⟩))
          rcases (pt_cons _ _ _).1 h1 with h1 | h1
          · have := h1.2.1; omega
          · have := pb _ h1; omega
        · exact heq
        · have h1 := (h (x.f0 - 1)).2 ((pt_cons _ _ _).2 (.inl ⟨hy, by omega, by omega⟩))
          rcases (pt_cons _ _ _).1 h1 with h1 | h1
          · have := h1.2.1; omega
          · have := pa _ h1; omega
      have exy : x = y := rg_ext x y e0 e1
      subst exy
      rw [ih b hna hnb ?_]
      intro p
      constructor
      · intro hp
        have hlt := pa p hp
        rcases (pt_cons _ _ _).1 ((h p).1 ((pt_cons _ _ _).2 (.inr hp))) with h1 | h1
        · have := h1.2.1; omega
        · exact h1
      · intro hp
        have hlt := pb p hp
        rcases (pt_cons _ _ _).1 ((h p).2 ((pt_cons _ _ _).2 (.inr hp))) with h1 | h1
        · have := h1.2.1; omega
        · exact h1

/-! sorted -/
def srt (l : List Rg) : List Rg := (sortR (l.filter mayB)).toList.map SmallR.v
theorem srt_perm (l : List Rg) : (srt l).Perm (l.filter mayB) := by
  have hall : (l.filter mayB).all smallB = true := by
    rw [List.all_eq_true]
    intro x hx
    have h1 := (mayB_iff x).1 (List.mem_filter.1 hx).2
    unfold MayP at h1
    simp [smallB]
    omega
  have h := (permR (l.filter mayB)).1.map SmallR.v
  rw [toSmall_val _ hall] at h
  exact h
theorem srt_rise (l : List Rg) : (srt l).Pairwise fun x y => x.f0 ≤ y.f0 := by
  have h := (permR (l.filter mayB)).2
  unfold srt
  rw [List.pairwise_map, List.pairwise_iff_getElem]
  intro i j hi hj hij
  have h1 := h i j hij (by simpa using hj)
  rw [Go.Proofs.Ytimlagmgcfaepaa.SortRow.getElem!_arr _ i (by simpa using hi), Go.Proofs.Ytimlagmgcfaepaa.SortRow.getElem!_arr _ j (by simpa using hj)] at h1
  simpa using h1
theorem srt_len (l : List Rg) : (srt l).length ≤ l.length := by
  rw [(srt_perm l).length_eq]
  exact List.length_filter_le _ _
theorem srt_may (l : List Rg) : ∀ x ∈ srt l, MayP x := fun x hx => (mayB_iff x).1 (List.mem_filter.1 ((srt_perm l).mem_iff.1 hx)).2
theorem srt_pt (l : List Rg) (p : Int) : PtP (srt l) p ↔ PtP l p := by
  unfold PtP
  constructor
  · rintro ⟨x, hx, hp⟩
    exact ⟨x, (List.mem_filter.1 ((srt_perm l).mem_iff.1 hx)).1, hp⟩
  · rintro ⟨x, hx, hp⟩
    exact ⟨x, (srt_perm l).mem_iff.2 (List.mem_filter.2 ⟨hx, (mayB_iff x).2 hp.1⟩), hp⟩

theorem sortf (l : List Rg) (h : l.length < 1000) : slices_SortFunc_Range.f (l.filter mayB) () = some (srt l) := by
  unfold slices_SortFunc_Range.f
  have hall : (l.filter mayB).all smallB = true := by
    rw [List.all_eq_true]
    intro x hx
    have h1 := (mayB_iff x).1 (List.mem_filter.1 hx).2
    unfold MayP at h1
    simp [smallB]
    omega
  have hlen := List.length_filter_le mayB l
  rw [if_pos ⟨hall, by omega⟩]
  rfl
theorem sorted_loop (l : List Rg) (h : l.length < 1000) (d : Nat) : ∀ i : Nat, i + d = l.length →
    Ev (fun k => place_sorted.l0 k ((l.take i).filter mayB) l (l.length : Int) (i : Int)) (srt l) := by
  induction d with
  | zero =>
    intro i hi
    have e : i = l.length := by omega
    subst e
    rw [List.take_length]
    refine Ev.step (f := fun _ => some (srt l)) (fun k => ?_) (Ev.now _)
    simp only [place_sorted.l0]
    rw [if_neg (by omega), sortf l h]
    rfl
  | succ d ih =>
    intro i hi
    have hlt : i < l.length := by omega
    have ht : l.take (i + 1) = l.take i ++ [l[i]] := List.take_succ_eq_append_getElem hlt
    have h2 := ih (i + 1) (by omega)
    rw [ht, List.filter_append] at h2
    have hl := List.length_filter_le mayB (l.take i)
    rw [List.length_take] at hl
    have h3 := Ev.bind (f := fun k a => place_sorted.l0 k a l (l.length : Int) ((i + 1 : Nat) : Int)) (some_ev ((l.take i).filter mayB) [l[i]] (by simp; omega)) h2
    refine Ev.step (fun k => ?_) h3
    simp only [place_sorted.l0]
    rw [if_pos (by omega), if_pos (by omega), if_pos (by omega), rd_nat l i hlt, w64_small (by omega) (by omega)]
    rfl
theorem sorted_ev (l : List Rg) (h : l.length < 1000) : Ev (fun k => place_sorted.f k l) (srt l) := sorted_loop l h l.length 0 (by omega)

/-! Join: the ranges so far, what is last first -/
def joinStep (acc : List Rg) (x : Rg) : List Rg :=
  match acc with
  | [] => [x]
  | y :: r => if x.f0 ≤ y.f1 then ⟨y.f0, mx y.f1 x.f1⟩ :: r else x :: y :: r
def joinR (l : List Rg) : List Rg := (srt l).foldl joinStep []
def joinL (l : List Rg) : List Rg := (joinR l).reverse

theorem joinStep_len (acc : List Rg) (x : Rg) : (joinStep acc x).length ≤ acc.length + 1 := by
  unfold joinStep
  cases acc with
  | nil => simp
  | cons y r => simp only; split <;> simp
theorem join_fold_len : ∀ (s acc : List Rg), (s.foldl joinStep acc).length ≤ acc.length + s.length := by
  intro s
  induction s with
  | nil => intro acc; simp
  | cons x s ih =>
    intro acc
    have h1 := ih (joinStep acc x)
    have h2 := joinStep_len acc x
    rw [List.foldl_cons, List.length_cons]
    omega
theorem joinL_len (l : List Rg) : (joinL l).length ≤ l.length := by
  unfold joinL joinR
  rw [List.length_reverse]
  have h1 := join_fold_len (srt l) []
  have h2 := srt_len l
  simp at h1
  omega

/-- What is put together so far is in normal form, has just the places so far, and nothing that comes begins ahead of its last range. -/
theorem join_fold (s : List Rg) : ∀ (acc : List Rg), NormR acc → (∀ x ∈ s, MayP x) → s.Pairwise (fun x y => x.f0 ≤ y.f0) → (∀ y r, acc = y :: r → ∀ x ∈ s, y.f0 ≤ x.f0) →
    NormR (s.foldl joinStep acc) ∧ ∀ p, PtP (s.foldl joinStep acc) p ↔ PtP acc p ∨ PtP s p := by
  induction s with
  | nil =>
    intro acc hn _ _ _
    exact ⟨hn, fun p => ⟨fun h => .inl h, fun h => h.elim id (fun h => absurd h (pt_nil p))⟩⟩
  | cons x s ih =>
    intro acc hn hm hp hle
    have hx := hm x List.mem_cons_self
    have hx' := hx
    unfold MayP at hx'
    rw [List.pairwise_cons] at hp
    rw [List.foldl_cons]
    cases acc with
    | nil =>
      obtain ⟨h1, h2⟩ := ih [x] ⟨hx, trivial, fun y hy => by cases hy⟩ (fun y hy => hm y (List.mem_cons_of_mem _ hy)) hp.2 (fun y r e z hz => by
        injection e with e _
        subst e
        exact hp.1 z hz)
      refine ⟨h1, fun p => ?_⟩
      have := h2 p
      rw [pt_cons] at this ⊢
      constructor
      · intro h
        rcases this.1 h with (h | h) | h
        · exact .inr (.inl h)
        · exact absurd h (pt_nil p)
        · exact .inr (.inr h)
      · rintro (h | h | h)
        · exact absurd h (pt_nil p)
        · exact this.2 (.inl (.inl h))
        · exact this.2 (.inr h)
    | cons y r =>
      have hyx := hle y r rfl x List.mem_cons_self
      obtain ⟨hy, hnr, hg⟩ := hn
      have hy' := hy
      unfold MayP at hy'
      by_cases hc : x.f0 ≤ y.f1
      · have e : joinStep (y :: r) x = ⟨y.f0, mx y.f1 x.f1⟩ :: r := by unfold joinStep; simp only; rw [if_pos hc]
        have hmx : (mx y.f1 x.f1 = y.f1 ∨ mx y.f1 x.f1 = x.f1) ∧ y.f1 ≤ mx y.f1 x.f1 ∧ x.f1 ≤ mx y.f1 x.f1 := by unfold mx; split <;> omega
        rw [e]
        obtain ⟨h1, h2⟩ := ih (⟨y.f0, mx y.f1 x.f1⟩ :: r) ⟨by unfold MayP; simp only; omega, hnr, hg⟩ (fun y hy => hm y (List.mem_cons_of_mem _ hy)) hp.2 (fun y' r' e' z hz => by
          injection e' with e' _
          subst e'
          have := hp.1 z hz
          simp only
          omega)
        refine ⟨h1, fun p => ?_⟩
        have hi : InP ⟨y.f0, mx y.f1 x.f1⟩ p ↔ InP y p ∨ InP x p := by
          unfold InP MayP
          simp only
          omega
        rw [h2 p, pt_cons, pt_cons, pt_cons, hi]
        constructor
        · rintro (((h | h) | h) | h)
          · exact .inl (.inl h)
          · exact .inr (.inl h)
          · exact .inl (.inr h)
          · exact .inr (.inr h)
        · rintro ((h | h) | h | h)
          · exact .inl (.inl (.inl h))
          · exact .inl (.inr h)
          · exact .inl (.inl (.inr h))
          · exact .inr h
      · have e : joinStep (y :: r) x = x :: y :: r := by unfold joinStep; simp only; rw [if_neg hc]
        rw [e]
        obtain ⟨h1, h2⟩ := ih (x :: y :: r) ⟨hx, ⟨hy, hnr, hg⟩, fun z hz => by
          rcases List.mem_cons.1 hz with rfl | hz
          · omega
          · have := hg z hz; omega⟩ (fun y hy => hm y (List.mem_cons_of_mem _ hy)) hp.2 (fun y' r' e' z hz => by
          injection e' with e' _
          subst e'
          exact hp.1 z hz)
        refine ⟨h1, fun p => ?_⟩
        rw [h2 p, pt_cons, pt_cons x s]
        constructor
        · rintro ((h | h) | h)
          · exact .inr (.inl h)
          · exact .inl h
          · exact .inr (.inr h)
        · rintro (h | h | h)
          · exact .inl (.inr h)
          · exact .inl (.inl h)
          · exact .inr h
theorem joinR_norm (l : List Rg) : NormR (joinR l) ∧ ∀ p, PtP (joinR l) p ↔ PtP l p := by
  obtain ⟨h1, h2⟩ := join_fold (srt l) [] trivial (srt_may l) (srt_rise l) (fun y r e => by cases e)
  refine ⟨h1, fun p => (h2 p).trans ?_⟩
  rw [srt_pt]
  exact ⟨fun h => h.elim (fun h => absurd h (pt_nil p)) id, .inr⟩
/-- What is in normal form, and has l's places, is what Join makes of l. -/
theorem joinR_eq (l a : List Rg) (ha : NormR a) (h : ∀ p, PtP a p ↔ PtP l p) : joinR l = a :=
  norm_unique _ _ (joinR_norm l).1 ha (fun p => ((joinR_norm l).2 p).trans (h p).symm)

theorem last_rd (a : List Rg) (y : Rg) : rd_T26 ((y :: a).reverse) (((y :: a).reverse.length : Int) - 1) = y := by
  unfold rd_T26
  rw [List.length_reverse]
  have e : (((y :: a).length : Int) - 1).toNat = a.length := by simp
  rw [e, List.reverse_cons, List.getD_eq_getElem?_getD, List.getElem?_append_right (by simp)]
  simp
theorem last_set (a : List Rg) (y v : Rg) : ((y :: a).reverse).set (((y :: a).reverse.length : Int) - 1).toNat v = (v :: a).reverse := by
  rw [List.length_reverse]
  have e : (((y :: a).length : Int) - 1).toNat = a.length := by simp
  rw [e, List.reverse_cons, List.reverse_cons, List.set_append_right _ _ (by simp)]
  simp

theorem join_loop (s : List Rg) (h : s.length < 1000) (d : Nat) : ∀ (i : Nat) (acc : List Rg), i + d = s.length → acc.length ≤ i →
    Ev (fun k => place_Join.l0 k acc.reverse s (s.length : Int) (i : Int)) ((s.drop i).foldl joinStep acc).reverse := by
  induction d with
  | zero =>
    intro i acc hi _
    have e : i = s.length := by omega
    subst e
    rw [List.drop_length]
    refine Ev.step (f := fun _ => some acc.reverse) (fun k => ?_) (Ev.now _)
    simp only [place_Join.l0]
    rw [if_neg (by omega)]
  | succ d ih =>
    intro i acc hi ha
    have hlt : i < s.length := by omega
    have hd : s.drop i = s[i] :: s.drop (i + 1) := List.drop_eq_getElem_cons hlt
    rw [hd, List.foldl_cons]
    have h2 := ih (i + 1) (joinStep acc s[i]) (by omega) (by have := joinStep_len acc s[i]; omega)
    refine Ev.step (fun k => ?_) h2
    simp only [place_Join.l0]
    rw [if_pos (by omega), if_pos (by omega), if_pos (by omega), rd_nat s i hlt, w64_small (i := (i : Int) + 1) (by omega) (by omega)]
    cases acc with
    | nil =>
      rw [if_neg (by simp), if_pos (by simp)]
      rfl
    | cons y r =>
      have hlen : (y :: r).reverse.length = r.length + 1 := by simp
      simp only [List.length_cons] at ha
      rw [if_pos (by omega), w64_small (i := ((y :: r).reverse.length : Int) - 1) (by omega) (by omega), if_pos (by omega), if_pos (by omega), last_rd]
      unfold joinStep
      simp only
      by_cases hc : s[i].f0 ≤ y.f1
      · rw [if_pos hc, if_pos hc, last_set]
        rfl
      · rw [if_neg hc, if_neg hc, if_pos (by omega)]
        simp
theorem join_ev (l : List Rg) (h : l.length < 1000) : Ev (fun k => place_Join.f k l) (joinL l) := by
  have hs := srt_len l
  have h1 := join_loop (srt l) (by omega) (srt l).length 0 [] (by omega) (by simp)
  unfold place_Join.f
  exact Ev.bind (sorted_ev l h) h1
end Go.Proofs.Ytimlagmgcfaepaa.P
