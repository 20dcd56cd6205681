/- The plain law: what Covers and Bounds of layer 4 come to, as functions on lists (out of the laws of chapter 04). No program in sight. -/
import Derived.Test.YteppmdafdopehaaP5
import Derived.Test.YteppmdafdopehaaP11
import Derived.Test.YteppmdafdopehaaP12
import Derived.Test.YteppmdafdopehaaP16
namespace Go.Proofs.Yteppmdafdopehaa.P.C4
open Go.RowKit Go.Proofs.YteppmdafdopehaaW.PrintWords Go.Proofs.YteppmdafdopehaaW.PrintLast
set_option linter.unusedVariables false
theorem w64_small {i : Int} (h0 : 0 ≤ i) (h1 : i < 9223372036854775808) : wrap64 i = i := by
  unfold wrap64
  omega
abbrev Rg := S26
def MayP (x : Rg) : Prop := 0 ≤ x.f0 ∧ x.f0 < x.f1 ∧ x.f1 ≤ 65536
instance (x : Rg) : Decidable (MayP x) := inferInstanceAs (Decidable (_ ∧ _))
def mayB (x : Rg) : Bool := decide (MayP x)
def InP (x : Rg) (p : Int) : Prop := MayP x ∧ x.f0 ≤ p ∧ p < x.f1
instance (x : Rg) (p : Int) : Decidable (InP x p) := inferInstanceAs (Decidable (_ ∧ _))
theorem mayB_iff (x : Rg) : mayB x = true ↔ MayP x := by simp [mayB]
theorem may_f (x : Rg) : place_May.f x.f0 x.f1 = some (mayB x) := by
  unfold place_May.f mayB MayP
  by_cases h1 : x.f0 ≥ 0 <;> by_cases h2 : x.f0 < x.f1 <;> by_cases h3 : x.f1 ≤ 65536 <;> simp [h1, h2, h3] <;> omega
theorem rd_nat (l : List Rg) (i : Nat) (h : i < l.length) : rd_T26 l (i : Int) = l[i] := by
  unfold rd_T26
  simp [h]
theorem some_loop (acc l : List Rg) (h : acc.length + l.length < 1000000) (d : Nat) : ∀ i : Nat, i + d = l.length →
    ∀ a : List Rg, a = acc ++ (l.take i).filter mayB → Ev (fun k => place_some.l0 k a l (l.length : Int) (i : Int)) (acc ++ l.filter mayB) := by
  induction d with
  | zero =>
    intro i hi a ha
    have e : i = l.length := by omega
    subst e
    rw [List.take_length] at ha
    refine Ev.step (f := fun _ => some (acc ++ l.filter mayB)) (fun k => ?_) (Ev.now _)
    simp only [place_some.l0]
    rw [if_neg (by omega), ha]
  | succ d ih =>
    intro i hi a ha
    have hlt : i < l.length := by omega
    have hal : a.length ≤ acc.length + l.length := by
      rw [ha, List.length_append]
      have := List.length_filter_le mayB (l.take i)
      rw [List.length_take] at this
      omega
    have ht : l.take (i + 1) = l.take i ++ [l[i]] := List.take_succ_eq_append_getElem hlt
    cases hm : mayB l[i] with
    | true =>
      have h2 := ih (i + 1) (by omega) (a ++ [l[i]]) (by rw [ha, ht, List.filter_append, List.append_assoc]; simp [hm])
      refine Ev.step (fun k => ?_) h2
      simp only [place_some.l0]
      rw [if_pos (by omega), if_pos (by omega), if_pos (by omega), rd_nat l i hlt, may_f, hm]
      simp only [Option.bind_some, if_true]
      rw [if_pos (by omega), w64_small (by omega) (by omega)]
      rfl
    | false =>
      have h2 := ih (i + 1) (by omega) a (by rw [ha, ht, List.filter_append]; simp [hm])
      refine Ev.step (fun k => ?_) h2
      simp only [place_some.l0]
      rw [if_pos (by omega), if_pos (by omega), if_pos (by omega), rd_nat l i hlt, may_f, hm]
      simp only [Option.bind_some, Bool.false_eq_true, if_false]
      rw [w64_small (by omega) (by omega)]
      rfl
theorem some_ev (acc l : List Rg) (h : acc.length + l.length < 1000000) : Ev (fun k => place_some.f k acc l) (acc ++ l.filter mayB) :=
  some_loop acc l h l.length 0 (by omega) acc (by simp)
def PtP (l : List Rg) (p : Int) : Prop := ∃ x ∈ l, InP x p
def srt (l : List Rg) : List Rg := (sortR (l.filter mayB)).toList.map SmallR.v
theorem srt_perm (l : List Rg) : (srt l).Perm (l.filter mayB) := by
  have hall : (l.filter mayB).all smallB = true := by
    rw [List.all_eq_true]
    intro x hx
    have h1 := (mayB_iff x).1 (List.mem_filter.1 hx).2
    unfold MayP at h1
    simp [smallB]
    omega
  have h := (permR (l.filter mayB)).1.map SmallR.v
  rw [toSmall_val _ hall] at h
  exact h
theorem srt_rise (l : List Rg) : (srt l).Pairwise fun x y => x.f0 ≤ y.f0 := by
  have h := (permR (l.filter mayB)).2
  unfold srt
  rw [List.pairwise_map, List.pairwise_iff_getElem]
  intro i j hi hj hij
  have h1 := h i j hij (by simpa using hj)
  rw [Go.Proofs.Yteppmdafdopehaa.SortRow.getElem!_arr _ i (by simpa using hi), Go.Proofs.Yteppmdafdopehaa.SortRow.getElem!_arr _ j (by simpa using hj)] at h1
  simpa using h1
theorem srt_len (l : List Rg) : (srt l).length ≤ l.length := by
  rw [(srt_perm l).length_eq]
  exact List.length_filter_le _ _
theorem srt_may (l : List Rg) : ∀ x ∈ srt l, MayP x := fun x hx => (mayB_iff x).1 (List.mem_filter.1 ((srt_perm l).mem_iff.1 hx)).2
theorem sortf (l : List Rg) (h : l.length < 1000) : slices_SortFunc_Range.f (l.filter mayB) () = some (srt l) := by
  unfold slices_SortFunc_Range.f
  have hall : (l.filter mayB).all smallB = true := by
    rw [List.all_eq_true]
    intro x hx
    have h1 := (mayB_iff x).1 (List.mem_filter.1 hx).2
    unfold MayP at h1
    simp [smallB]
    omega
  have hlen := List.length_filter_le mayB l
  rw [if_pos ⟨hall, by omega⟩]
  rfl
theorem sorted_loop (l : List Rg) (h : l.length < 1000) (d : Nat) : ∀ i : Nat, i + d = l.length →
    Ev (fun k => place_sorted.l0 k ((l.take i).filter mayB) l (l.length : Int) (i : Int)) (srt l) := by
  induction d with
  | zero =>
    intro i hi
    have e : i = l.length := by omega
    subst e
    rw [List.take_length]
    refine Ev.step (f := fun _ => some (srt l)) (fun k => ?_) (Ev.now _)
    simp only [place_sorted.l0]
    rw [if_neg (by omega), sortf l h]
    rfl
  | succ d ih =>
    intro i hi
    have hlt : i < l.length := by omega
    have ht : l.take (i + 1) = l.take i ++ [l[i]] := List.take_succ_eq_append_getElem hlt
    have h2 := ih (i + 1) (by omega)
    rw [ht, List.filter_append] at h2
    have hl := List.length_filter_le mayB (l.take i)
    rw [List.length_take] at hl
    have h3 := Ev.bind (f := fun k a => place_sorted.l0 k a l (l.length : Int) ((i + 1 : Nat) : Int)) (some_ev ((l.take i).filter mayB) [l[i]] (by simp; omega)) h2
    refine Ev.step (fun k => ?_) h3
    simp only [place_sorted.l0]
    rw [if_pos (by omega), if_pos (by omega), if_pos (by omega), rd_nat l i hlt, w64_small (by omega) (by omega)]
    rfl
theorem sorted_ev (l : List Rg) (h : l.length < 1000) : Ev (fun k => place_sorted.f k l) (srt l) := sorted_loop l h l.length 0 (by omega)
def inD (p : Int) (x : Rg) : Bool := decide (InP x p)
def cnt (p : Int) (l : List Rg) : Nat := l.countP (inD p)
/-- All may be, and each place from 0 to 65535 is in just one. -/
def TilesP (l : List Rg) : Prop := (∀ x ∈ l, MayP x) ∧ ∀ p, 0 ≤ p → p < 65536 → cnt p l = 1
/-- One behind the other, from a on, to the end. -/
def chain : Int → List Rg → Bool
  | a, [] => decide (a = 65536)
  | a, x :: s => decide (x.f0 = a) && chain x.f1 s
/-- What the code asks. -/
def Tiles (l : List Rg) : Prop := (srt l).length = l.length ∧ chain 0 (srt l) = true
instance (l : List Rg) : Decidable (Tiles l) := inferInstanceAs (Decidable (_ ∧ _))
theorem cnt_cons (p : Int) (x : Rg) (s : List Rg) : cnt p (x :: s) = cnt p s + if InP x p then 1 else 0 := by
  unfold cnt inD
  rw [List.countP_cons]
  by_cases h : InP x p <;> simp [h]
theorem cnt_pos (p : Int) (l : List Rg) : 0 < cnt p l ↔ PtP l p := by
  unfold cnt PtP
  rw [List.countP_pos_iff]
  simp [inD]
theorem chain_cnt : ∀ (s : List Rg) (a : Int), (∀ x ∈ s, MayP x) → chain a s = true → ∀ p, cnt p s = if a ≤ p ∧ p < 65536 then 1 else 0 := by
  intro s
  induction s with
  | nil =>
    intro a _ hc p
    simp only [chain, decide_eq_true_eq] at hc
    rw [if_neg (by omega)]
    rfl
  | cons x s ih =>
    intro a hm hc p
    simp only [chain, Bool.and_eq_true, decide_eq_true_eq] at hc
    have hx := hm x List.mem_cons_self
    have hx' := hx
    unfold MayP at hx'
    rw [cnt_cons, ih x.f1 (fun y hy => hm y (List.mem_cons_of_mem _ hy)) hc.2 p]
    have hi : InP x p ↔ x.f0 ≤ p ∧ p < x.f1 := ⟨fun h => h.2, fun h => ⟨hx, h⟩⟩
    by_cases h1 : InP x p
    · rw [if_pos h1]
      rw [hi] at h1
      rw [if_neg (by omega), if_pos (by omega)]
    · rw [if_neg h1]
      rw [hi] at h1
      by_cases h2 : x.f1 ≤ p ∧ p < 65536
      · rw [if_pos h2, if_pos (by omega)]
      · rw [if_neg h2, if_neg (by omega)]
theorem cnt_chain : ∀ (s : List Rg) (a : Int), (∀ x ∈ s, MayP x) → s.Pairwise (fun x y => x.f0 ≤ y.f0) → 0 ≤ a → a ≤ 65536 → (∀ p, cnt p s = if a ≤ p ∧ p < 65536 then 1 else 0) → chain a s = true := by
  intro s
  induction s with
  | nil =>
    intro a _ _ h0 h1 h
    simp only [chain, decide_eq_true_eq]
    have := h a
    by_cases e : a = 65536
    · exact e
    · rw [if_pos (by omega)] at this
      simp [cnt] at this
  | cons x s ih =>
    intro a hm hp h0 h1 h
    have hx := hm x List.mem_cons_self
    have hx' := hx
    unfold MayP at hx'
    rw [List.pairwise_cons] at hp
    have e0 : x.f0 = a := by
      have hle : a ≤ x.f0 := by
        have h2 := h x.f0
        have h3 : 0 < cnt x.f0 (x :: s) := (cnt_pos _ _).2 ⟨x, List.mem_cons_self, hx, by omega, by omega⟩
        by_cases h4 : a ≤ x.f0 ∧ x.f0 < 65536
        · exact h4.1
        · rw [if_neg h4] at h2; omega
      have h2 := h a
      rw [if_pos (by omega)] at h2
      have h3 : 0 < cnt a (x :: s) := by omega
      obtain ⟨y, hy, hi⟩ := (cnt_pos _ _).1 h3
      have := hi.2.1
      rcases List.mem_cons.1 hy with rfl | hy
      · omega
      · have := hp.1 y hy; omega
    simp only [chain, Bool.and_eq_true, decide_eq_true_eq]
    refine ⟨e0, ih x.f1 (fun y hy => hm y (List.mem_cons_of_mem _ hy)) hp.2 (by omega) (by omega) (fun p => ?_)⟩
    have h2 := h p
    rw [cnt_cons] at h2
    have hi : InP x p ↔ x.f0 ≤ p ∧ p < x.f1 := ⟨fun h => h.2, fun h => ⟨hx, h⟩⟩
    by_cases h3 : InP x p
    · rw [if_pos h3] at h2
      rw [hi] at h3
      rw [if_pos (by omega)] at h2
      rw [if_neg (by omega)]
      omega
    · rw [if_neg h3] at h2
      rw [hi] at h3
      by_cases h4 : x.f1 ≤ p ∧ p < 65536
      · rw [if_pos h4]
        rw [if_pos (by omega)] at h2
        omega
      · rw [if_neg h4]
        rw [if_neg (by omega)] at h2
        omega
theorem cnt_perm (p : Int) {a b : List Rg} (h : a.Perm b) : cnt p a = cnt p b := h.countP_eq _
theorem cnt_out (l : List Rg) (p : Int) (h : p < 0 ∨ 65536 ≤ p) : cnt p l = 0 := by
  rcases Nat.eq_zero_or_pos (cnt p l) with h0 | h0
  · exact h0
  · obtain ⟨x, _, hm, h1, h2⟩ := (cnt_pos _ _).1 h0
    unfold MayP at hm
    omega
theorem srt_all (l : List Rg) : (srt l).length = l.length ↔ ∀ x ∈ l, MayP x := by
  rw [(srt_perm l).length_eq, List.length_filter_eq_length_iff]
  constructor
  · intro h x hx
    exact (mayB_iff x).1 (h x hx)
  · intro h x hx
    exact (mayB_iff x).2 (h x hx)
theorem srt_cnt (l : List Rg) (hm : ∀ x ∈ l, MayP x) (p : Int) : cnt p (srt l) = cnt p l := by
  rw [cnt_perm p (srt_perm l), List.filter_eq_self.2 (fun x hx => (mayB_iff x).2 (hm x hx))]
theorem tiles_iff (l : List Rg) : Tiles l ↔ TilesP l := by
  unfold Tiles TilesP
  rw [srt_all]
  constructor
  · rintro ⟨hm, hc⟩
    refine ⟨hm, fun p h0 h1 => ?_⟩
    rw [← srt_cnt l hm, chain_cnt (srt l) 0 (srt_may l) hc p, if_pos ⟨h0, h1⟩]
  · rintro ⟨hm, hc⟩
    refine ⟨hm, cnt_chain (srt l) 0 (srt_may l) (srt_rise l) (by decide) (by decide) (fun p => ?_)⟩
    rw [srt_cnt l hm]
    by_cases h : 0 ≤ p ∧ p < 65536
    · rw [if_pos h, hc p h.1 h.2]
    · rw [if_neg h, cnt_out l p (by omega)]
theorem covers_loop (l s : List Rg) (h : s.length < 1000) (hl : l.length < 1000) (d : Nat) : ∀ (i : Nat) (a : Int), i + d = s.length →
    Ev (fun k => place_Covers.l0 k l s a s (s.length : Int) (i : Int)) (decide (s.length = l.length) && chain a (s.drop i)) := by
  induction d with
  | zero =>
    intro i a hi
    have e : i = s.length := by omega
    subst e
    rw [List.drop_length]
    refine Ev.step (f := fun _ => some (decide (s.length = l.length) && chain a [])) (fun k => ?_) (Ev.now _)
    simp only [place_Covers.l0]
    rw [if_neg (by omega)]
    by_cases e : s.length = l.length
    · rw [if_pos (by omega)]
      simp only [e, decide_true, Bool.true_and, chain]
      congr 1
    · rw [if_neg (by omega)]
      simp [e]
  | succ d ih =>
    intro i a hi
    have hlt : i < s.length := by omega
    have hd : s.drop i = s[i] :: s.drop (i + 1) := List.drop_eq_getElem_cons hlt
    rw [hd]
    by_cases e : s[i].f0 = a
    · have h2 := ih (i + 1) s[i].f1 (by omega)
      simp only [chain, e, decide_true, Bool.true_and]
      refine Ev.step (fun k => ?_) h2
      simp only [place_Covers.l0]
      rw [if_pos (by omega), if_pos (by omega), if_pos (by omega), rd_nat s i hlt, if_pos e, w64_small (by omega) (by omega)]
      rfl
    · simp only [chain, e, decide_false, Bool.false_and, Bool.and_false]
      refine Ev.step (f := fun _ => some false) (fun k => ?_) (Ev.now _)
      simp only [place_Covers.l0]
      rw [if_pos (by omega), if_pos (by omega), if_pos (by omega), rd_nat s i hlt, if_neg e]
theorem covers_ev (l : List Rg) (h : l.length < 1000) : Ev (fun k => place_Covers.f k l) (decide (Tiles l)) := by
  have hs := srt_len l
  have h1 := covers_loop l (srt l) (by omega) h (srt l).length 0 0 (by omega)
  rw [List.drop_zero] at h1
  have e : (decide ((srt l).length = l.length) && chain 0 (srt l)) = decide (Tiles l) := by
    unfold Tiles
    by_cases a : (srt l).length = l.length <;> by_cases b : chain 0 (srt l) = true <;> simp [a, b]
  rw [e] at h1
  unfold place_Covers.f
  exact Ev.bind (sorted_ev l h) h1
end Go.Proofs.Yteppmdafdopehaa.P.C4
