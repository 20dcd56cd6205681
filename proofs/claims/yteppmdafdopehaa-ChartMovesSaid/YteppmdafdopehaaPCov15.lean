/- The plain law: what Covers and Bounds of layer 4 come to, as functions on lists (out of the laws of chapter 04). No program in sight. -/
import Derived.Test.YteppmdafdopehaaP5
import Derived.Test.YteppmdafdopehaaP11
import Derived.Test.YteppmdafdopehaaP12
import Derived.Test.YteppmdafdopehaaP16
namespace Go.Proofs.Yteppmdafdopehaa.P.C4
open Go.RowKit Go.Proofs.YteppmdafdopehaaW.PrintWords Go.Proofs.YteppmdafdopehaaW.PrintLast
set_option linter.unusedVariables false
theorem w64_small {i : Int} (h0 : 0 ≤ i) (h1 : i < 9223372036854775808) : wrap64 i = i := by
  unfold wrap64
  omega
abbrev Rg := S26
def MayP (x : Rg) : Prop := 0 ≤ x.f0 ∧ x.f0 < x.f1 ∧ x.f1 ≤ 65536
instance (x : Rg) : Decidable (MayP x) := inferInstanceAs (Decidable (_ ∧ _))
def mayB (x : Rg) : Bool := decide (MayP x)
def InP (x : Rg) (p : Int) : Prop := MayP x ∧ x.f0 ≤ p ∧ p < x.f1
instance (x : Rg) (p : Int) : Decidable (InP x p) := inferInstanceAs (Decidable (_ ∧ _))
theorem mayB_iff (x : Rg) : mayB x = true ↔ MayP x := by simp [mayB]
theorem may_f (x : Rg) : place_May.f x.f0 x.f1 = some (mayB x) := by
  unfold place_May.f mayB MayP
  by_cases h1 : x.f0 ≥ 0 <;> by_cases h2 : x.f0 < x.f1 <;> by_cases h3 : x.f1 ≤ 65536 <;> simp [h1, h2, h3] <;> omega
theorem rd_nat (l : List Rg) (i : Nat) (h : i < l.length) : rd_T26 l (i : Int) = l[i] := by
  unfold rd_T26
  simp [h]
theorem some_loop (acc l : List Rg) (h : acc.length + l.length < 1000000) (d : Nat) : ∀ i : Nat, i + d = l.length →
    ∀ a : List Rg, a = acc ++ (l.take i).filter mayB → Ev (fun k => place_some.l0 k a l (l.length : Int) (i : Int)) (acc ++ l.filter mayB) := by
  induction d with
  | zero =>
    intro i hi a ha
    have e : i = l.length := by omega
    subst e
    rw [List.take_length] at ha
    refine Ev.step (f := fun _ => some (acc ++ l.filter mayB)) (fun k => ?_) (Ev.now _)
    simp only [place_some.l0]
    rw [if_neg (by omega), ha]
  | succ d ih =>
    intro i hi a ha
    have hlt : i < l.length := by omega
    have hal : a.length ≤ acc.length + l.length := by
      rw [ha, List.length_append]
      have := List.length_filter_le mayB (l.take i)
      rw [List.length_take] at this
      omega
    have ht : l.take (i + 1) = l.take i ++ [l[i]] := List.take_succ_eq_append_getElem hlt
    cases hm : mayB l[i] with
    | true =>
      have h2 := ih (i + 1) (by omega) (a ++ [l[i]]) (by rw [ha, ht, List.filter_append, List.append_assoc]; simp [hm])
      refine Ev.step (fun k => ?_) h2
      simp only [place_some.l0]
      rw [if_pos (by omega), if_pos (by omega), if_pos (by omega), rd_nat l i hlt, may_f, hm]
      simp only [Option.bind_some, if_true]
      rw [if_pos (by omega), w64_small (by omega) (by omega)]
      rfl
    | false =>
      have h2 := ih (i + 1) (by omega) a (by rw [ha, ht, List.filter_append]; simp [hm])
      refine Ev.step (fun k => ?_) h2
      simp only [place_some.l0]
      rw [if_pos (by omega), if_pos (by omega), if_pos (by omega), rd_nat l i hlt, may_f, hm]
      simp only [Option.bind_some, Bool.false_eq_true, if_false]
      rw [w64_small (by omega) (by omega)]
      rfl
theorem some_ev (acc l : List Rg) (h : acc.length + l.length < 1000000) : Ev (fun k => place_some.f k acc l) (acc ++ l.filter mayB) :=
  some_loop acc l h l.length 0 (by omega) acc (by simp)
def PtP (l : List Rg) (p : Int) : Prop := ∃ x ∈ l, InP x p
def srt (l : List Rg) : List Rg := (sortR (l.filter mayB)).toList.map SmallR.v
theorem srt_perm (l : List Rg) : (srt l).Perm (l.filter mayB) := by
  have hall : (l.filter mayB).all smallB = true := by
    rw [List.all_eq_true]
    intro x hx
    have h1 := (mayB_iff x).1 (List.mem_filter.1 hx).2
    unfold MayP at h1
    simp [smallB]
    omega
  have h := (permR (l.filter mayB)).1.map SmallR.v
  rw [toSmall_val _ hall] at h
  exact h
theorem srt_rise (l : List Rg) : (srt l).Pairwise fun x y => x.f0 ≤ y.f0 := by
  have h := (permR (l.filter mayB)).2
  unfold srt
  rw [List.pairwise_map, List.pairwise_iff_getElem]
  intro i j hi hj hij
  have h1 := h i j hij (by simpa using hj)
  rw [Go.Proofs.Yteppmdafdopehaa.SortRow.getElem!_arr _ i (by simpa using hi), Go.Proofs.Yteppmdafdopehaa.SortRow.getElem!_arr _ j (by simpa using hj)] at h1
  simpa using h1
theorem srt_len (l : List Rg) : (srt l).length ≤ l.length := by
  rw [(srt_perm l).length_eq]
  exact List.length_filter_le _ _
theorem srt_may (l : List Rg) : ∀ x ∈ srt l, MayP x := fun x hx => (mayB_iff x).1 (List.mem_filter.1 ((srt_perm l).mem_iff.1 hx)).2
theorem sortf (l : List Rg) (h : l.length < 1000) : slices_SortFunc_Range.f (l.filter mayB) () = some (srt l) := by
  unfold slices_SortFunc_Range.f
  have hall : (l.filter mayB).all smallB = true := by
    rw [List.all_eq_true]
    intro x hx
    have h1 := (mayB_iff x).1 (List.mem_filter.1 hx).2
    unfold MayP at h1
    simp [smallB]
    omega
  have hlen := List.length_filter_le mayB l
  rw [if_pos ⟨hall, by omega⟩]
  rfl
theorem sorted_loop (l : List Rg) (h : l.length < 1000) (d : Nat) : ∀ i : Nat, i + d = l.length →
    Ev (fun k => place_sorted.l0 k ((l.take i).filter mayB) l (l.length : Int) (i : Int)) (srt l) := by
  induction d with
  | zero =>
    intro i hi
    have e : i = l.length := by omega
    subst e
    rw [List.take_length]
    refine Ev.step (f := fun _ => some (srt l)) (fun k => ?_) (Ev.now _)
    simp only [place_sorted.l0]
    rw [if_neg (by omega), sortf l h]
    rfl
  | succ d ih =>
    intro i hi
    have hlt : i < l.length := by omega
    have ht : l.take (i + 1) = l.take i ++ [l[i]] := List.take_succ_eq_append_getElem hlt
    have h2 := ih (i + 1) (by omega)
    rw [ht, List.filter_append] at h2
    have hl := List.length_filter_le mayB (l.take i)
    rw [List.length_take] at hl
    have h3 := Ev.bind (f := fun k a => place_sorted.l0 k a l (l.length : Int) ((i + 1 : Nat) : Int)) (some_ev ((l.take i).filter mayB) [l[i]] (by simp; omega)) h2
    refine Ev.step (fun k => ?_) h3
    simp only [place_sorted.l0]
    rw [if_pos (by omega), if_pos (by omega), if_pos (by omega), rd_nat l i hlt, w64_small (by omega) (by omega)]
    rfl
theorem sorted_ev (l : List Rg) (h : l.length < 1000) : Ev (fun k => place_sorted.f k l) (srt l) := sorted_loop l h l.length 0 (by omega)
def inD (p : Int) (x : Rg) : Bool := decide (InP x p)
def cnt (p : Int) (l : List Rg) : Nat := l.countP (inD p)
/-- All may be, and each place from 0 to 65535 is in just one. -/
def TilesP (l : List Rg) : Prop := (∀ x ∈ l, MayP x) ∧ ∀ p, 0 ≤ p → p < 65536 → cnt p l = 1
/-- One behind the other, from a on, to the end. -/
def chain : Int → List Rg → Bool
  | a, [] => decide (a = 65536)
  | a, x :: s => decide (x.f0 = a) && chain x.f1 s
/-- What the code asks. -/
def Tiles (l : List Rg) : Prop := (srt l).length = l.length ∧ chain 0 (srt l) = true
instance (l : List Rg) : Decidable (Tiles l) := inferInstanceAs (Decidable (_ ∧ _))
theorem cnt_cons (p : Int) (x : Rg) (s : List Rg) : cnt p (x :: s) = cnt p s + if InP x p then 1 else 0 := by
  unfold cnt inD
  rw [List.countP_cons]
  by_cases h : InP x p <;> simp [h]
theorem cnt_pos (p : Int) (l : List Rg) : 0 < cnt p l ↔ PtP l p := by
  unfold cnt PtP
  rw [List.countP_pos_iff]
  simp [inD]
theorem chain_cnt : ∀ (s : List Rg) (a : Int), (∀ x ∈ s, MayP x) → chain a s = true → ∀ p, cnt p s = if a ≤ p ∧ p < 65536 then 1 else 0 := by
  intro s
  induction s with
  | nil =>
    intro a _ hc p
    simp only [chain, decide_eq_true_eq] at hc
    rw [if_neg (by omega)]
    rfl
  | cons x s ih =>
    intro a hm hc p
    simp only [chain, Bool.and_eq_true, decide_eq_true_eq] at hc
    have hx := hm x List.mem_cons_self
    have hx' := hx
    unfold MayP at hx'
    rw [cnt_cons, ih x.f1 (fun y hy => hm y (List.mem_cons_of_mem _ hy)) hc.2 p]
    have hi : InP x p ↔ x.f0 ≤ p ∧ p < x.f1 := ⟨fun h => h.2, fun h => ⟨hx, h⟩⟩
    by_cases h1 : InP x p
    · rw [if_pos h1]
      rw [hi] at h1
      rw [if_neg (by omega), if_pos (by omega)]
    · rw [if_neg h1]
      rw [hi] at h1
      by_cases h2 : x.f1 ≤ p ∧ p < 65536
      · rw [if_pos h2, if_pos (by omega)]
      · rw [if_neg h2, if_neg (by omega)]
theorem cnt_chain : ∀ (s : List Rg) (a : Int), (∀ x ∈ s, MayP x) → s.Pairwise (fun x y => x.f0 ≤ y.f0) → 0 ≤ a → a ≤ 65536 → (∀ p, cnt p s = if a ≤ p ∧ p < 65536 then 1 else 0) → chain a s = true := by
  intro s
  induction s with
  | nil =>
    intro a _ _ h0 h1 h
    simp only [chain, decide_eq_true_eq]
    have := h a
    by_cases e : a = 65536
    · exact e
    · rw [if_pos (by omega)] at this
      simp [cnt] at this
  | cons x s ih =>
    intro a hm hp h0 h1 h
    have hx := hm x List.mem_cons_self
    have hx' := hx
    unfold MayP at hx'
    rw [List.pairwise_cons] at hp
    have e0 : x.f0 = a := by
      have hle : a ≤ x.f0 := by
        have h2 := h x.f0
        have h3 : 0 < cnt x.f0 (x :: s) := (cnt_pos _ _).2 ⟨x, List.mem_cons_self, hx, by omega, by omega⟩
        by_cases h4 : a ≤ x.f0 ∧ x.f0 < 65536
        · exact h4.1
        · rw [if_neg h4] at h2; omega
      have h2 := h a
      rw [if_pos (by omega)] at h2
      have h3 : 0 < cnt a (x :: s) := by omega
      obtain ⟨y, hy, hi⟩ := (cnt_pos _ _).1 h3
      have := hi.2.1
      rcases List.mem_cons.1 hy with rfl | hy
      · omega
      · have := hp.1 y hy; omega
    simp only [chain, Bool.and_eq_true, decide_eq_true_eq]
    refine ⟨e0, ih x.f1 (fun y hy => hm y (List.mem_cons_of_mem _ hy)) hp.2 (by omega) (by omega) (fun p => ?_)⟩
    have h2 := h p
    rw [cnt_cons] at h2
    have hi : InP x p ↔ x.f0 ≤ p ∧ p < x.f1 := ⟨fun h => h.2, fun h => ⟨hx, h⟩⟩
    by_cases h3 : InP x p
    · rw [if_pos h3] at h2
      rw [hi] at h3
      rw [if_pos (by omega)] at h2
      rw [if_neg (by omega)]
      omega
    · rw [if_neg h3] at h2
      rw [hi] at h3
      by_cases h4 : x.f1 ≤ p ∧ p < 65536
      · rw [if_pos h4]
        rw [if_pos (by omega)] at h2
        omega
      · rw [if_neg h4]
        rw [if_neg (by omega)] at h2
        omega
theorem cnt_perm (p : Int) {a b : List Rg} (h : a.Perm b) : cnt p a = cnt p b := h.countP_eq _
theorem cnt_out (l : List Rg) (p : Int) (h : p < 0 ∨ 65536 ≤ p) : cnt p l = 0 := by
  rcases Nat.eq_zero_or_pos (cnt p l) with h0 | h0
  · exact h0
  · obtain ⟨x, _, hm, h1, h2⟩ := (cnt_pos _ _).1 h0
    unfold MayP at hm
    omega
theorem srt_all (l : List Rg) : (srt l).length = l.length ↔ ∀ x ∈ l, MayP x := by
  rw [(srt_perm l).length_eq, List.length_filter_eq_length_iff]
  constructor
  · intro h x hx
    exact (mayB_iff x).1 (h x hx)
  · intro h x hx
    exact (mayB_iff x).2 (h x hx)
theorem srt_cnt (l : List Rg) (hm : ∀ x ∈ l, MayP x) (p : Int) : cnt p (srt l) = cnt p l := by
  rw [cnt_perm p (srt_perm l), List.filter_eq_self.2 (fun x hx => (mayB_iff x).2 (hm x hx))]
theorem tiles_iff (l : List Rg) : Tiles l ↔ TilesP l := by
  unfold Tiles TilesP
  rw [srt_all]
  constructor
  · rintro ⟨hm, hc⟩
    refine ⟨hm, fun p h0 h1 => ?_⟩
    rw [← srt_cnt l hm, chain_cnt (srt l) 0 (srt_may l) hc p, if_pos ⟨h0, h1⟩]
  · rintro ⟨hm, hc⟩
    refine ⟨hm, cnt_chain (srt l) 0 (srt_may l) (srt_rise l) (by decide) (by decide) (fun p => ?_)⟩
    rw [srt_cnt l hm]
    by_cases h : 0 ≤ p ∧ p < 65536
    · rw [if_pos h, hc p h.1 h.2]
    · rw [if_neg h, cnt_out l p (by omega)]
theorem covers_loop (l s : List Rg) (h : s.length < 1000) (hl : l.length < 1000) (d : Nat) : ∀ (i : Nat) (a : Int), i + d = s.length →
    Ev (fun k => place_Covers.l0 k l s a s (s.length : Int) (i : Int)) (decide (s.length = l.length) && chain a (s.drop i)) := by
  induction d with
  | zero =>
    intro i a hi
    have e : i = s.length := by omega
    subst e
    rw [List.drop_length]
    refine Ev.step (f := fun _ => some (decide (s.length = l.length) && chain a [])) (fun k => ?_) (Ev.now _)
    simp only [place_Covers.l0]
    rw [if_neg (by omega)]
    by_cases e : s.length = l.length
    · rw [if_pos (by omega)]
      simp only [e, decide_true, Bool.true_and, chain]
      congr 1
    · rw [if_neg (by omega)]
      simp [e]
  | succ d ih =>
    intro i a hi
    have hlt : i < s.length := by omega
    have hd : s.drop i = s[i] :: s.drop (i + 1) := List.drop_eq_getElem_cons hlt
    rw [hd]
    by_cases e : s[i].f0 = a
    · have h2 := ih (i + 1) s[i].f1 (by omega)
      simp only [chain, e, decide_true, Bool.true_and]
      refine Ev.step (fun k => ?_) h2
      simp only [place_Covers.l0]
      rw [if_pos (by omega), if_pos (by omega), if_pos (by omega), rd_nat s i hlt, if_pos e, w64_small (by omega) (by omega)]
      rfl
    · simp only [chain, e, decide_false, Bool.false_and, Bool.and_false]
      refine Ev.step (f := fun _ => some false) (fun k => ?_) (Ev.now _)
      simp only [place_Covers.l0]
      rw [if_pos (by omega), if_pos (by omega), if_pos (by omega), rd_nat s i hlt, if_neg e]
theorem covers_ev (l : List Rg) (h : l.length < 1000) : Ev (fun k => place_Covers.f k l) (decide (Tiles l)) := by
  have hs := srt_len l
  have h1 := covers_loop l (srt l) (by omega) h (srt l).length 0 0 (by omega)
  rw [List.drop_zero] at h1
  have e : (decide ((srt l).length = l.length) && chain 0 (srt l)) = decide (Tiles l) := by
    unfold Tiles
    by_cases a : (srt l).length = l.length <;> by_cases b : chain 0 (srt l) = true <;> simp [a, b]
  rw [e] at h1
  unfold place_Covers.f
  exact Ev.bind (sorted_ev l h) h1
theorem rmay_f (x : Rg) : racewayref04_May.f x.f0 x.f1 = some (mayB x) := by
  unfold racewayref04_May.f mayB MayP
  by_cases h1 : 0 ≤ x.f0 <;> by_cases h2 : x.f0 < x.f1 <;> by_cases h3 : x.f1 ≤ 65536 <;> simp [h1, h2, h3]
theorem rin_f (x : Rg) (p : Int) : racewayref04_In.f x.f0 x.f1 p = some (decide (InP x p)) := by
  unfold racewayref04_In.f InP
  rw [rmay_f]
  by_cases h0 : MayP x <;> by_cases h1 : x.f0 ≤ p <;> by_cases h2 : p < x.f1 <;> simp [mayB, h0, h1, h2]
def ins (n : Int) : List Int → List Int
  | [] => [n]
  | x :: xs => if n ≤ x then (if n < x then n :: x :: xs else x :: xs) else x :: ins n xs
theorem ins_len (n : Int) : ∀ l, (ins n l).length ≤ l.length + 1 := by
  intro l
  induction l with
  | nil => simp [ins]
  | cons x xs ih =>
    unfold ins
    split
    · split <;> simp
    · simp; exact ih
theorem ins_mem (n y : Int) : ∀ l, y ∈ ins n l ↔ y = n ∨ y ∈ l := by
  intro l
  induction l with
  | nil => simp [ins]
  | cons x xs ih =>
    unfold ins
    by_cases h1 : n ≤ x
    · rw [if_pos h1]
      by_cases h2 : n < x
      · rw [if_pos h2]; simp
      · rw [if_neg h2]
        have : n = x := by omega
        subst this
        simp
    · rw [if_neg h1, List.mem_cons, ih, List.mem_cons]
      constructor
      · rintro (h | h | h)
        · exact .inr (.inl h)
        · exact .inl h
        · exact .inr (.inr h)
      · rintro (h | h | h)
        · exact .inr (.inl h)
        · exact .inl h
        · exact .inr (.inr h)
theorem ins_rise (n : Int) : ∀ l, l.Pairwise (· < ·) → (ins n l).Pairwise (· < ·) := by
  intro l
  induction l with
  | nil => intro _; simp [ins]
  | cons x xs ih =>
    intro hp
    have hp0 := hp
    rw [List.pairwise_cons] at hp
    unfold ins
    by_cases h1 : n ≤ x
    · rw [if_pos h1]
      by_cases h2 : n < x
      · rw [if_pos h2, List.pairwise_cons]
        refine ⟨fun y hy => ?_, hp0⟩
        rcases List.mem_cons.1 hy with rfl | hy
        · exact h2
        · have := hp.1 y hy; omega
      · rw [if_neg h2]; exact hp0
    · rw [if_neg h1, List.pairwise_cons]
      refine ⟨fun y hy => ?_, ih hp.2⟩
      rcases (ins_mem n y xs).1 hy with rfl | hy
      · omega
      · exact hp.1 y hy
theorem rdi_nat (l : List Int) (i : Nat) (h : i < l.length) : rd l (i : Int) = l[i] := by
  unfold rd
  simp [h]
theorem into_put (l : List Int) (n : Int) (h : l.length < 100000) (d : Nat) : ∀ (i : Nat) (acc : List Int), i + d = l.length → acc.length ≤ i + 1 →
    Ev (fun k => racewayref04_into.l0 k l n acc true (i : Int)) (acc ++ l.drop i) := by
  induction d with
  | zero =>
    intro i acc hi ha
    have e : i = l.length := by omega
    subst e
    rw [List.drop_length, List.append_nil]
    refine Ev.step (f := fun _ => some acc) (fun k => ?_) (Ev.now _)
    simp only [racewayref04_into.l0]
    rw [if_neg (by omega)]
    simp
  | succ d ih =>
    intro i acc hi ha
    have hlt : i < l.length := by omega
    have h2 := ih (i + 1) (acc ++ [l[i]]) (by omega) (by simp; omega)
    rw [List.append_assoc] at h2
    have hd : l.drop i = l[i] :: l.drop (i + 1) := List.drop_eq_getElem_cons hlt
    rw [hd]
    refine Ev.step (f := fun k => racewayref04_into.j1 k l n acc true (i : Int) false) (fun k => ?_) (Ev.step (fun k => ?_) h2)
    · simp only [racewayref04_into.l0]
      rw [if_pos (by omega)]
      simp
    · simp only [racewayref04_into.j1, Bool.false_eq_true, if_false]
      rw [if_pos (by omega), if_pos (by omega), if_pos (by omega), rdi_nat l i hlt, w64_small (by omega) (by omega)]
      rfl
theorem into_loop (l : List Int) (n : Int) (h : l.length < 100000) (d : Nat) : ∀ (i : Nat) (acc : List Int), i + d = l.length → acc.length ≤ i →
    Ev (fun k => racewayref04_into.l0 k l n acc false (i : Int)) (acc ++ ins n (l.drop i)) := by
  induction d with
  | zero =>
    intro i acc hi ha
    have e : i = l.length := by omega
    subst e
    rw [List.drop_length]
    refine Ev.step (f := fun _ => some (acc ++ [n])) (fun k => ?_) (Ev.now _)
    simp only [racewayref04_into.l0]
    rw [if_neg (by omega)]
    simp only [Bool.false_eq_true, if_false]
    rw [if_pos (by omega)]
  | succ d ih =>
    intro i acc hi ha
    have hlt : i < l.length := by omega
    have hd : l.drop i = l[i] :: l.drop (i + 1) := List.drop_eq_getElem_cons hlt
    rw [hd]
    have hfirst : ∀ k, racewayref04_into.l0 (k + 1) l n acc false (i : Int) = racewayref04_into.j1 k l n acc false (i : Int) (decide (n ≤ l[i])) := by
      intro k
      simp only [racewayref04_into.l0, Bool.false_eq_true, if_false]
      rw [if_pos (by omega), if_pos (by omega), rdi_nat l i hlt]
    refine Ev.step hfirst ?_
    have hw : wrap64 ((i : Int) + 1) = ((i + 1 : Nat) : Int) := by rw [w64_small (by omega) (by omega)]; rfl
    unfold ins
    by_cases h1 : n ≤ l[i]
    · rw [decide_eq_true h1, if_pos h1]
      by_cases h2 : n < l[i]
      · rw [if_pos h2]
        have h3 := into_put l n h d (i + 1) (acc ++ [n] ++ [l[i]]) (by omega) (by simp; omega)
        have e : acc ++ n :: l[i] :: l.drop (i + 1) = acc ++ [n] ++ [l[i]] ++ l.drop (i + 1) := by simp
        rw [e]
        refine Ev.step (fun k => ?_) h3
        simp only [racewayref04_into.j1, if_true]
        rw [if_pos (by omega), if_pos (by omega), rdi_nat l i hlt, if_pos h2, if_pos (by omega)]
        simp only [Option.bind_some]
        rw [if_pos (by simp; omega), hw]
      · rw [if_neg h2]
        have h3 := into_put l n h d (i + 1) (acc ++ [l[i]]) (by omega) (by simp; omega)
        have e : acc ++ l[i] :: l.drop (i + 1) = acc ++ [l[i]] ++ l.drop (i + 1) := by simp
        rw [e]
        refine Ev.step (fun k => ?_) h3
        simp only [racewayref04_into.j1, if_true]
        rw [if_pos (by omega), if_pos (by omega), rdi_nat l i hlt, if_neg h2, if_pos (by omega), hw]
    · rw [decide_eq_false h1, if_neg h1]
      have h3 := ih (i + 1) (acc ++ [l[i]]) (by omega) (by simp; omega)
      have e : acc ++ l[i] :: ins n (l.drop (i + 1)) = acc ++ [l[i]] ++ ins n (l.drop (i + 1)) := by simp
      rw [e]
      refine Ev.step (fun k => ?_) h3
      simp only [racewayref04_into.j1, Bool.false_eq_true, if_false]
      rw [if_pos (by omega), if_pos (by omega), if_pos (by omega), rdi_nat l i hlt, hw]
theorem into_ev (l : List Int) (n : Int) (h : l.length < 100000) : Ev (fun k => racewayref04_into.f k l n) (ins n l) := by
  have h1 := into_loop l n h l.length 0 [] (by omega) (by simp)
  rw [List.nil_append, List.drop_zero] at h1
  exact h1
def bstep (b : List Int) (x : Rg) : List Int := if mayB x = true then ins x.f1 (ins x.f0 b) else b
def bnds (l : List Rg) : List Int := l.foldl bstep [0]
theorem bstep_len (b : List Int) (x : Rg) : (bstep b x).length ≤ b.length + 2 := by
  unfold bstep
  split
  · have h1 := ins_len x.f1 (ins x.f0 b)
    have h2 := ins_len x.f0 b
    omega
  · omega
theorem bfold_len : ∀ (l : List Rg) (b : List Int), (l.foldl bstep b).length ≤ b.length + 2 * l.length := by
  intro l
  induction l with
  | nil => intro b; simp
  | cons x l ih =>
    intro b
    have h1 := ih (bstep b x)
    have h2 := bstep_len b x
    rw [List.foldl_cons, List.length_cons]
    omega
theorem bfold_rise : ∀ (l : List Rg) (b : List Int), b.Pairwise (· < ·) → (l.foldl bstep b).Pairwise (· < ·) := by
  intro l
  induction l with
  | nil => intro b h; exact h
  | cons x l ih =>
    intro b h
    rw [List.foldl_cons]
    refine ih _ ?_
    unfold bstep
    split
    · exact ins_rise _ _ (ins_rise _ _ h)
    · exact h
theorem bfold_mem (y : Int) : ∀ (l : List Rg) (b : List Int), y ∈ l.foldl bstep b ↔ y ∈ b ∨ ∃ x ∈ l, MayP x ∧ (y = x.f0 ∨ y = x.f1) := by
  intro l
  induction l with
  | nil => intro b; simp
  | cons x l ih =>
    intro b
    rw [List.foldl_cons, ih]
    have hb : y ∈ bstep b x ↔ y ∈ b ∨ MayP x ∧ (y = x.f0 ∨ y = x.f1) := by
      unfold bstep
      by_cases hx : MayP x
      · rw [if_pos ((mayB_iff x).2 hx), ins_mem, ins_mem]
        constructor
        · rintro (h | h | h)
          · exact .inr ⟨hx, .inr h⟩
          · exact .inr ⟨hx, .inl h⟩
          · exact .inl h
        · rintro (h | ⟨_, h | h⟩)
          · exact .inr (.inr h)
          · exact .inr (.inl h)
          · exact .inl h
      · rw [if_neg (fun h => hx ((mayB_iff x).1 h))]
        exact ⟨.inl, fun h => h.elim id (fun h => absurd h.1 hx)⟩
    rw [hb]
    constructor
    · rintro ((h | h) | ⟨z, hz, h⟩)
      · exact .inl h
      · exact .inr ⟨x, List.mem_cons_self, h⟩
      · exact .inr ⟨z, List.mem_cons_of_mem _ hz, h⟩
    · rintro (h | ⟨z, hz, h⟩)
      · exact .inl (.inl h)
      · rcases List.mem_cons.1 hz with rfl | hz
        · exact .inl (.inr h)
        · exact .inr ⟨z, hz, h⟩
theorem bounds_loop (l : List Rg) (h : l.length < 1000) (d : Nat) : ∀ i : Nat, i + d = l.length →
    Ev (fun k => racewayref04_Bounds.l0 k l ((l.take i).foldl bstep [0]) (i : Int)) (bnds l) := by
  induction d with
  | zero =>
    intro i hi
    have e : i = l.length := by omega
    subst e
    rw [List.take_length]
    refine Ev.step (f := fun _ => some (bnds l)) (fun k => ?_) (Ev.now _)
    simp only [racewayref04_Bounds.l0]
    rw [if_neg (by omega)]
    rfl
  | succ d ih =>
    intro i hi
    have hlt : i < l.length := by omega
    have ht : l.take (i + 1) = l.take i ++ [l[i]] := List.take_succ_eq_append_getElem hlt
    have h2 := ih (i + 1) (by omega)
    rw [ht, List.foldl_append] at h2
    have hb := bfold_len (l.take i) [0]
    rw [List.length_take] at hb
    simp only [List.length_cons, List.length_nil] at hb
    generalize (l.take i).foldl bstep [0] = b at h2 hb ⊢
    simp only [List.foldl_cons, List.foldl_nil] at h2
    have hw : wrap64 ((i : Int) + 1) = ((i + 1 : Nat) : Int) := by rw [w64_small (by omega) (by omega)]; rfl
    unfold bstep at h2
    cases hm : mayB l[i] with
    | true =>
      rw [if_pos hm] at h2
      have h3 := ins_len l[i].f0 b
      have h4 := Ev.bind (f := fun k a => (racewayref04_into.f k a l[i].f1).bind fun c => racewayref04_Bounds.l0 k l c ((i + 1 : Nat) : Int)) (into_ev b l[i].f0 (by omega)) (Ev.bind (into_ev (ins l[i].f0 b) l[i].f1 (by omega)) h2)
      refine Ev.step (fun k => ?_) h4
      simp only [racewayref04_Bounds.l0]
      rw [if_pos (by omega), if_pos (by omega), rd_nat l i hlt, rmay_f, hm]
      simp only [Option.bind_some, if_true]
      rw [hw]
    | false =>
      rw [if_neg (by simp [hm])] at h2
      refine Ev.step (fun k => ?_) h2
      simp only [racewayref04_Bounds.l0]
      rw [if_pos (by omega), if_pos (by omega), rd_nat l i hlt, rmay_f, hm]
      simp only [Option.bind_some, Bool.false_eq_true, if_false]
      rw [hw]
theorem bounds_ev (l : List Rg) (h : l.length < 1000) : Ev (fun k => racewayref04_Bounds.f k l) (bnds l) := bounds_loop l h l.length 0 (by omega)
theorem bnds_mem (l : List Rg) (y : Int) : y ∈ bnds l ↔ y = 0 ∨ ∃ x ∈ l, MayP x ∧ (y = x.f0 ∨ y = x.f1) := by
  unfold bnds
  rw [bfold_mem]
  simp
theorem bnds_rise (l : List Rg) : (bnds l).Pairwise (· < ·) := bfold_rise l [0] (by simp)
theorem bnds_len (l : List Rg) : (bnds l).length ≤ 1 + 2 * l.length := by
  have h1 := bfold_len l [0]
  unfold bnds
  simpa using h1
theorem same_between (x : Rg) (b p : Int) (hb : b ≤ p) (h : ∀ e, MayP x → (e = x.f0 ∨ e = x.f1) → e ≤ b ∨ p < e) : InP x p ↔ InP x b := by
  unfold InP
  constructor
  · rintro ⟨hm, h1, h2⟩
    have a1 := h x.f0 hm (.inl rfl)
    have a2 := h x.f1 hm (.inr rfl)
    exact ⟨hm, by omega, by omega⟩
  · rintro ⟨hm, h1, h2⟩
    have a1 := h x.f0 hm (.inl rfl)
    have a2 := h x.f1 hm (.inr rfl)
    exact ⟨hm, by omega, by omega⟩
end Go.Proofs.Yteppmdafdopehaa.P.C4
