/- The plain law: Covers of layer 4: it is true just if all may be, and each place is in just one. No program in sight. -/
import Derived.Test.YtimlagmgcfaepaaPJoin04
namespace Go.Proofs.Ytimlagmgcfaepaa.P
open Go.RowKit Go.Proofs.YtimlagmgcfaepaaW.PrintWords Go.Proofs.YtimlagmgcfaepaaW.PrintLast
set_option linter.unusedVariables false

def inD (p : Int) (x : Rg) : Bool := decide (InP x p)
def cnt (p : Int) (l : List Rg) : Nat := l.countP (inD p)
/-- All may be, and each place from 0 to 65535 is in just one. -/
def TilesP (l : List Rg) : Prop := (∀ x ∈ l, MayP x) ∧ ∀ p, 0 ≤ p → p < 65536 → cnt p l = 1
/-- One behind the other, from a on, to the end. -/
def chain : Int → List Rg → Bool
  | a, [] => decide (a = 65536)
  | a, x :: s => decide (x.f0 = a) && chain x.f1 s
/-- What the code asks. -/
def Tiles (l : List Rg) : Prop := (srt l).length = l.length ∧ chain 0 (srt l) = true
instance (l : List Rg) : Decidable (Tiles l) := inferInstanceAs (Decidable (_ ∧ _))

theorem cnt_cons (p : Int) (x : Rg) (s : List Rg) : cnt p (x :: s) = cnt p s + if InP x p then 1 else 0 := by
  unfold cnt inD
  rw [List.countP_cons]
  by_cases h : InP x p <;> simp [h]
theorem cnt_pos (p : Int) (l : List Rg) : 0 < cnt p l ↔ PtP l p := by
  unfold cnt PtP
  rw [List.countP_pos_iff]
  simp [inD]
theorem chain_cnt : ∀ (s : List Rg) (a : Int), (∀ x ∈ s, MayP x) → chain a s = true → ∀ p, cnt p s = if a ≤ p ∧ p < 65536 then 1 else 0 := by
  intro s
  induction s with
  | nil =>
    intro a _ hc p
    simp only [chain, decide_eq_true_eq] at hc
    rw [if_neg (by omega)]
    rfl
  | cons x s ih =>
    intro a hm hc p
    simp only [chain, Bool.and_eq_true, decide_eq_true_eq] at hc
    have hx := hm x List.mem_cons_self
    have hx' := hx
    unfold MayP at hx'
    rw [cnt_cons, ih x.f1 (fun y hy => hm y (List.mem_cons_of_mem _ hy)) hc.2 p]
    have hi : InP x p ↔ x.f0 ≤ p ∧ p < x.f1 := ⟨fun h => h.2, fun h => ⟨hx, h⟩⟩
    by_cases h1 : InP x p
    · rw [if_pos h1]
      rw [hi] at h1
      rw [if_neg (by omega), if_pos (by omega)]
    · rw [if_neg h1]
      rw [hi] at h1
      by_cases h2 : x.f1 ≤ p ∧ p < 65536
      · rw [if_pos h2, if_pos (by omega)]
      · rw [if_neg h2, if_neg (by omega)]
theorem cnt_chain : ∀ (s : List Rg) (a : Int), (∀ x ∈ s, MayP x) → s.Pairwise (fun x y => x.f0 ≤ y.f0) → 0 ≤ a → a ≤ 65536 → (∀ p, cnt p s = if a ≤ p ∧ p < 65536 then 1 else 0) → chain a s = true := by
  intro s
  induction s with
  | nil =>
    intro a _ _ h0 h1 h
    simp only [chain, decide_eq_true_eq]
    have := h a
    by_cases e : a = 65536
    · exact e
    · rw [if_pos (by omega)] at this
      simp [cnt] at this
  | cons x s ih =>
    intro a hm hp h0 h1 h
    have hx := hm x List.mem_cons_self
    have hx' := hx
    unfold MayP at hx'
    rw [List.pairwise_cons] at hp
    have e0 : x.f0 = a := by
      have hle : a ≤ x.f0 := by
        have h2 := h x.f0
        have h3 : 0 < cnt x.f0 (x :: s) := (cnt_pos _ _).2 ⟨x, List.mem_cons_self, hx, by omega, by omega⟩
        by_cases h4 : a ≤ x.f0 ∧ x.f0 < 65536
        · exact h4.1
        · rw [if_neg h4] at h2; omega
      have h2 := h a
      rw [if_pos (by omega)] at h2
      have h3 : 0 < cnt a (x :: s) := by omega
      obtain ⟨y, hy, hi⟩ := (cnt_pos _ _).1 h3
      have := hi.2.1
      rcases List.mem_cons.1 hy with rfl | hy
      · omega
      · have := hp.1 y hy; omega
    simp only [chain, Bool.and_eq_true, decide_eq_true_eq]
    refine ⟨e0, ih x.f1 (fun y hy => hm y (List.mem_cons_of_mem _ hy)) hp.2 (by omega) (by omega) (fun p => ?_)⟩
    have h2 := h p
    rw [cnt_cons] at h2
    have hi : InP x p ↔ x.f0 ≤ p ∧ p < x.f1 := ⟨fun h => h.2, fun h => ⟨hx, h⟩⟩
    by_cases h3 : InP x p
    · rw [if_pos h3] at h2
      rw [hi] at h3
      rw [if_pos (by omega)] at h2
      rw [if_neg (by omega)]
      omega
    · rw [if_neg h3] at h2
      rw [hi] at h3
      by_cases h4 : x.f1 ≤ p ∧ p < 65536
      · rw [if_pos h4]
        rw [if_pos (by omega)] at h2
        omega
      · rw [if_neg h4]
        rw [if_neg (by omega)] at h2
        omega
theorem cnt_perm (p : Int) {a b : List Rg} (h : a.Perm b) : cnt p a = cnt p b := h.countP_eq _
theorem cnt_out (l : List Rg) (p : Int) (h : p < 0 ∨ 65536 ≤ p) : cnt p l = 0 := by
  rcases Nat.eq_zero_or_pos (cnt p l) with h0 | h0
  · exact h0
  · obtain ⟨x, _, hm, h1, h2⟩ := (cnt_pos _ _).1 h0
    unfold MayP at hm
    omega
theorem srt_all (l : List Rg) : (srt l).length = l.length ↔ ∀ x ∈ l, MayP x := by
  rw [(srt_perm l).length_eq, List.length_filter_eq_length_iff]
  constructor
  · intro h x hx
    exact (mayB_iff x).1 (h x hx)
  · intro h x hx
    exact (mayB_iff x).2 (h x hx)
theorem srt_cnt (l : List Rg) (hm : ∀ x ∈ l, MayP x) (p : Int) : cnt p (srt l) = cnt p l := by
  rw [cnt_perm p (srt_perm l), List.filter_eq_self.2 (fun x hx => (mayB_iff x).2 (hm x hx))]
theorem tiles_iff (l : List Rg) : Tiles l ↔ TilesP l := by
  unfold Tiles TilesP
  rw [srt_all]
  constructor
  · rintro ⟨hm, hc⟩
    refine ⟨hm, fun p h0 h1 => ?_⟩
    rw [← srt_cnt l hm, chain_cnt (srt l) 0 (srt_may l) hc p, if_pos ⟨h0, h1⟩]
  · rintro ⟨hm, hc⟩
    refine ⟨hm, cnt_chain (srt l) 0 (srt_may l) (srt_rise l) (by decide) (by decide) (fun p => ?_)⟩
    rw [srt_cnt l hm]
    by_cases h : 0 ≤ p ∧ p < 65536
    · rw [if_pos h, hc p h.1 h.2]
    · rw [if_neg h, cnt_out l p (by omega)]
theorem tiles_pt (l : List Rg) (h : Tiles l) (p : Int) (h0 : 0 ≤ p) (h1 : p < 65536) : PtP l p := by
  rw [tiles_iff] at h
  rw [← cnt_pos, h.2 p h0 h1]
  decide

theorem covers_loop (l s : List Rg) (h : s.length < 1000) (hl : l.length < 1000) (d : Nat) : ∀ (i : Nat) (a : Int), i + d = s.length →
    Ev (fun k => place_Covers.l0 k l s a s (s.length : Int) (i : Int)) (decide (s.length = l.length) && chain a (s.drop i)) := by
  induction d with
  | zero =>
    intro i a hi
    have e : i = s.length := by omega
    subst e
    rw [List.drop_length]
    refine Ev.step (f := fun _ => some (decide (s.length = l.length) && chain a [])) (fun k => ?_) (Ev.now _)
    simp only [place_Covers.l0]
    rw [if_neg (by omega)]
    by_cases e : s.length = l.length
    · rw [if_pos (by omega)]
      simp only [e, decide_true, Bool.true_and, chain]
      congr 1
    · rw [if_neg (by omega)]
      simp [e]
  | succ d ih =>
    intro i a hi
    have hlt : i < s.length := by omega
    have hd : s.drop i = s[i] :: s.drop (i + 1) := List.drop_eq_getElem_cons hlt
    rw [hd]
    by_cases e : s[i].f0 = a
    · have h2 := ih (i + 1) s[i].f1 (by omega)
      simp only [chain, e, decide_true, Bool.true_and]
      refine Ev.step (fun k => ?_) h2
      simp only [place_Covers.l0]
      rw [if_pos (by omega), if_pos (by omega), if_pos (by omega), rd_nat s i hlt, if_pos e, w64_small (by omega) (by omega)]
      rfl
    · simp only [chain, e, decide_false, Bool.false_and, Bool.and_false]
      refine Ev.step (f := fun _ => some false) (fun k => ?_) (Ev.now _)
      simp only [place_Covers.l0]
      rw [if_pos (by omega), if_pos (by omega), if_pos (by omega), rd_nat s i hlt, if_neg e]
theorem covers_ev (l : List Rg) (h : l.length < 1000) : Ev (fun k => place_Covers.f k l) (decide (Tiles l)) := by
  have hs := srt_len l
  have h1 := covers_loop l (srt l) (by omega) h (srt l).length 0 0 (by omega)
  rw [List.drop_zero] at h1
  have e : (decide ((srt l).length = l.length) && chain 0 (srt l)) = decide (Tiles l) := by
    unfold Tiles
    by_cases a : (srt l).length = l.length <;> by_cases b : chain 0 (srt l) = true <;> simp [a, b]
  rw [e] at h1
  unfold place_Covers.f
  exact Ev.bind (sorted_ev l h) h1
end Go.Proofs.Ytimlagmgcfaepaa.P
