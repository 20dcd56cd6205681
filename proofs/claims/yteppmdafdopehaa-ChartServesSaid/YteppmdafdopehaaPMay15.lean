/- The plain law: which charts may be, who serves a place, which charts are alike; for the code and for the document's answer. No program in sight; charts of at most some hundreds of pieces. -/
import Derived.Test.YteppmdafdopehaaPCov15
import Derived.Test.YteppmdafdopehaaP6
import Derived.Test.YteppmdafdopehaaP8
import Derived.Test.YteppmdafdopehaaP13
import Derived.Test.YteppmdafdopehaaP14
namespace Go.Proofs.Yteppmdafdopehaa.P.C4
open Go.RowKit Go.Proofs.YteppmdafdopehaaW.PrintWords Go.Proofs.YteppmdafdopehaaW.PrintLast
set_option linter.unusedVariables false
abbrev Pc := S43
instance : DecidableEq S26 := fun x y => decidable_of_iff (x.f0 = y.f0 ∧ x.f1 = y.f1) (by cases x; cases y; simp)
instance : DecidableEq S43 := fun x y => decidable_of_iff (x.f0 = y.f0 ∧ x.f1 = y.f1) (by cases x; cases y; simp)
theorem rd_pc (l : List Pc) (i : Nat) (h : i < l.length) : rd_T43 l (i : Int) = l[i] := by unfold rd_T43; simp [h]
/-- One behind the other from x on to the end, no two alike side by side (q: the shard before). -/
def chOK : Int → Int → List Pc → Bool
  | x, _, [] => decide (x = 65536)
  | x, q, p :: l => decide (p.f0.f0 = x) && (decide (x < p.f0.f1) && (decide (p.f0.f1 ≤ 65536) && (decide (1 ≤ p.f1) && (decide (p.f1 ≤ 6) && (decide (p.f1 ≠ q) && chOK p.f0.f1 p.f1 l)))))
def mayC (ep : Int) (l : List Pc) : Bool := decide (1 ≤ ep) && (decide (ep ≤ 1099511627776) && chOK 0 0 l)
theorem shard_f (n : Int) : chart_shard.f n = some (decide (1 ≤ n ∧ n ≤ 6)) := by
  unfold chart_shard.f
  by_cases h1 : n ≥ 1
  · rw [if_pos h1]; congr 1; rw [decide_eq_decide]; omega
  · rw [if_neg h1]; congr 1; rw [eq_comm, decide_eq_false_iff_not]; omega
/-- Shards that may be, each piece behind the one before, and unlike it. -/
def rise : Option Pc → List Pc → Bool
  | _, [] => true
  | q, p :: l => decide (1 ≤ p.f1 ∧ p.f1 ≤ 6) && ((match q with | none => true | some y => decide (y.f0.f1 ≤ p.f0.f0) && decide (p.f1 ≠ y.f1)) && rise (some p) l)
def prevP (l : List Pc) (i : Nat) : Option Pc := if 0 < i then l[i - 1]? else none
theorem may_loop (ep : Int) (l : List Pc) (h : l.length < 1000) (d : Nat) : ∀ (i : Nat), i + d = l.length →
    Ev (fun k => chart_May.l0 k ((l.take i).map (·.f0)) l (l.length : Int) (i : Int) ep l) (rise (prevP l i) (l.drop i) && decide (Tiles (l.map (·.f0)))) := by
  induction d with
  | zero =>
    intro i hi
    have e : i = l.length := by omega
    subst e
    rw [List.drop_length, List.take_length]
    have h1 := covers_ev (l.map (·.f0)) (by simpa using h)
    have h2 := Ev.bind (f := fun _ t => some t) h1 (Ev.now _)
    refine Ev.step (fun k => ?_) h2
    simp only [chart_May.l0]
    rw [if_neg (by omega)]
  | succ d ih =>
    intro i hi
    have hlt : i < l.length := by omega
    have hn := ih (i + 1) (by omega)
    have ht : (l.take (i + 1)).map (·.f0) = (l.take i).map (·.f0) ++ [(l[i]).f0] := by rw [List.take_succ_eq_append_getElem hlt, List.map_append]; rfl
    have hp : prevP l (i + 1) = some l[i] := by unfold prevP; simp [hlt]
    rw [ht, hp] at hn
    have hln : ((l.take i).map (·.f0)).length < 8796093022208 := by simp; omega
    rw [List.drop_eq_getElem_cons hlt]
    by_cases c1 : 1 ≤ (l[i]).f1 ∧ (l[i]).f1 ≤ 6
    · by_cases h0 : 0 < i
      · have hq : prevP l i = some l[i - 1] := by unfold prevP; rw [if_pos h0]; simp
        have hw : wrap64 ((i : Int) - 1) = ((i - 1 : Nat) : Int) := by rw [w64_small (by omega) (by omega)]; omega
        rw [hq]
        by_cases c2 : (l[i]).f0.f0 < (l[i - 1]).f0.f1
        · have e : rise (some l[i - 1]) (l[i] :: l.drop (i + 1)) = false := by simp only [rise]; rw [decide_eq_false (show ¬ (l[i - 1]).f0.f1 ≤ (l[i]).f0.f0 by omega)]; simp
          rw [e, Bool.false_and]
          refine Ev.step (f := fun _ => some false) (fun k => ?_) (Ev.now _)
          simp only [chart_May.l0]
          rw [if_pos (by omega), if_pos (by omega), if_pos (by omega), rd_pc l i hlt, shard_f, decide_eq_true c1]
          simp only [Option.bind_some, if_true]
          rw [if_pos (by omega), hw, if_pos (by omega), if_pos (by omega), rd_pc l (i - 1) (by omega), if_pos c2]
        · by_cases c3 : (l[i]).f1 = (l[i - 1]).f1
          · have e : rise (some l[i - 1]) (l[i] :: l.drop (i + 1)) = false := by simp only [rise]; rw [show decide ((l[i]).f1 ≠ (l[i - 1]).f1) = false from decide_eq_false (fun h => h c3)]; simp
            rw [e, Bool.false_and]
            refine Ev.step (f := fun _ => some false) (fun k => ?_) (Ev.now _)
            simp only [chart_May.l0]
            rw [if_pos (by omega), if_pos (by omega), if_pos (by omega), rd_pc l i hlt, shard_f, decide_eq_true c1]
            simp only [Option.bind_some, if_true]
            rw [if_pos (by omega), hw, if_pos (by omega), if_pos (by omega), rd_pc l (i - 1) (by omega), if_neg c2, if_pos c3]
          · have e : rise (some l[i - 1]) (l[i] :: l.drop (i + 1)) = rise (some l[i]) (l.drop (i + 1)) := by
              simp only [rise]
              rw [decide_eq_true c1, decide_eq_true (show (l[i - 1]).f0.f1 ≤ (l[i]).f0.f0 by omega), show decide ((l[i]).f1 ≠ (l[i - 1]).f1) = true from decide_eq_true c3]
              simp
            rw [e]
            refine Ev.step (fun k => ?_) hn
            simp only [chart_May.l0]
            rw [if_pos (by omega), if_pos (by omega), if_pos (by omega), rd_pc l i hlt, shard_f, decide_eq_true c1]
            simp only [Option.bind_some, if_true]
            rw [if_pos (by omega), hw, if_pos (by omega), if_pos (by omega), rd_pc l (i - 1) (by omega), if_neg c2, if_neg c3, if_pos hln, w64_small (by omega) (by omega)]
            rfl
      · have hi0 : i = 0 := by omega
        have hq : prevP l i = none := by unfold prevP; rw [if_neg h0]
        have e : rise (prevP l i) (l[i] :: l.drop (i + 1)) = rise (some l[i]) (l.drop (i + 1)) := by rw [hq]; simp only [rise]; rw [decide_eq_true c1]; simp
        rw [e]
        refine Ev.step (fun k => ?_) hn
        simp only [chart_May.l0]
        rw [if_pos (by omega), if_pos (by omega), if_pos (by omega), rd_pc l i hlt, shard_f, decide_eq_true c1]
        simp only [Option.bind_some, if_true]
        rw [if_neg (by omega), if_pos hln, w64_small (by omega) (by omega)]
        rfl
    · have e : rise (prevP l i) (l[i] :: l.drop (i + 1)) = false := by simp only [rise]; rw [decide_eq_false c1]; simp
      rw [e, Bool.false_and]
      refine Ev.step (f := fun _ => some false) (fun k => ?_) (Ev.now _)
      simp only [chart_May.l0]
      rw [if_pos (by omega), if_pos (by omega), if_pos (by omega), rd_pc l i hlt, shard_f, decide_eq_false c1]
      simp
theorem chOK_all : ∀ (l : List Pc) (x q : Int), chOK x q l = true → (∀ p ∈ l, 0 ≤ x → MayP p.f0 ∧ 1 ≤ p.f1 ∧ p.f1 ≤ 6) ∧ chain x (l.map (·.f0)) = true := by
  intro l
  induction l with
  | nil => intro x q h; exact ⟨fun p hp => (by cases hp), by simpa [chOK, chain] using h⟩
  | cons y l ih =>
    intro x q h
    simp only [chOK, Bool.and_eq_true, decide_eq_true_eq] at h
    obtain ⟨h1, h2, h3, h4, h5, h6, h7⟩ := h
    obtain ⟨i1, i2⟩ := ih _ _ h7
    refine ⟨fun p hp hx => ?_, ?_⟩
    · rcases List.mem_cons.1 hp with rfl | hp
      · exact ⟨⟨by omega, by omega, h3⟩, h4, h5⟩
      · exact i1 p hp (by omega)
    · simp only [List.map_cons, chain, Bool.and_eq_true, decide_eq_true_eq]
      exact ⟨h1, i2⟩
theorem rise_of : ∀ (l : List Pc) (x q : Int) (y : Option Pc), chOK x q l = true → (∀ z, y = some z → z.f0.f1 = x ∧ z.f1 = q) → rise y l = true := by
  intro l
  induction l with
  | nil => intro x q y _ _; rfl
  | cons p l ih =>
    intro x q y h hy
    simp only [chOK, Bool.and_eq_true, decide_eq_true_eq] at h
    obtain ⟨h1, h2, h3, h4, h5, h6, h7⟩ := h
    simp only [rise, Bool.and_eq_true, decide_eq_true_eq]
    refine ⟨⟨h4, h5⟩, ?_, ih _ _ _ h7 (fun z hz => by cases hz; exact ⟨rfl, rfl⟩)⟩
    cases y with
    | none => rfl
    | some z =>
      obtain ⟨z1, z2⟩ := hy z rfl
      simp only [Bool.and_eq_true, decide_eq_true_eq]
      exact ⟨by omega, by omega⟩
theorem chOK_of : ∀ (l : List Pc) (x q : Int) (y : Option Pc), rise y l = true → (∀ z, y = some z → z.f1 = q) → (y = none → q = 0) → (∀ p ∈ l, MayP p.f0) → chain x (l.map (·.f0)) = true → chOK x q l = true := by
  intro l
  induction l with
  | nil => intro x q y _ _ _ _ hc; simpa [chOK, chain] using hc
  | cons p l ih =>
    intro x q y hr hy hn hm hc
    simp only [List.map_cons, chain, Bool.and_eq_true, decide_eq_true_eq] at hc
    simp only [rise, Bool.and_eq_true, decide_eq_true_eq] at hr
    obtain ⟨⟨h4, h5⟩, h6, h7⟩ := hr
    have hp := hm p List.mem_cons_self
    unfold MayP at hp
    simp only [chOK, Bool.and_eq_true, decide_eq_true_eq]
    refine ⟨hc.1, by omega, hp.2.2, h4, h5, ?_, ih _ _ _ h7 (fun z hz => by cases hz; rfl) (fun h => by cases h) (fun z hz => hm z (List.mem_cons_of_mem _ hz)) hc.2⟩
    cases y with
    | none => have := hn rfl; omega
    | some z =>
      simp only [Bool.and_eq_true, decide_eq_true_eq] at h6
      rw [← hy z rfl]
      exact h6.2
theorem rise_pair : ∀ (l : List Pc) (y : Option Pc), rise y l = true → (∀ p ∈ l, MayP p.f0) → (l.map (·.f0)).Pairwise (fun a b => a.f0 ≤ b.f0) ∧ (∀ z, y = some z → MayP z.f0 → ∀ p ∈ l, z.f0.f0 ≤ p.f0.f0) := by
  intro l
  induction l with
  | nil => intro y _ _; exact ⟨List.Pairwise.nil, fun _ _ _ p hp => (by cases hp)⟩
  | cons p l ih =>
    intro y hr hm
    simp only [rise, Bool.and_eq_true, decide_eq_true_eq] at hr
    obtain ⟨_, h6, h7⟩ := hr
    obtain ⟨i1, i2⟩ := ih (some p) h7 (fun z hz => hm z (List.mem_cons_of_mem _ hz))
    have hp := hm p List.mem_cons_self
    have i3 := i2 p rfl hp
    refine ⟨?_, fun z hz hzm q hq => ?_⟩
    · rw [List.map_cons, List.pairwise_cons]
      exact ⟨fun b hb => by obtain ⟨c, hc, rfl⟩ := List.mem_map.1 hb; exact i3 c hc, i1⟩
    · subst hz
      simp only [Bool.and_eq_true, decide_eq_true_eq] at h6
      unfold MayP at hzm
      rcases List.mem_cons.1 hq with rfl | hq
      · omega
      · have := i3 q hq; omega
theorem may_iff (l : List Pc) : (rise none l && decide (Tiles (l.map (·.f0)))) = chOK 0 0 l := by
  rw [Bool.eq_iff_iff]
  simp only [Bool.and_eq_true, decide_eq_true_eq]
  constructor
  · rintro ⟨hr, ht⟩
    rw [tiles_iff] at ht
    obtain ⟨hm, hc⟩ := ht
    have hm2 : ∀ p ∈ l, MayP p.f0 := fun p hp => hm _ (List.mem_map_of_mem hp)
    refine chOK_of l 0 0 none hr (fun z hz => by cases hz) (fun _ => rfl) hm2 ?_
    refine cnt_chain _ 0 hm (rise_pair l none hr hm2).1 (by omega) (by omega) (fun p => ?_)
    by_cases hp : 0 ≤ p ∧ p < 65536
    · rw [if_pos hp]; exact hc p hp.1 hp.2
    · rw [if_neg hp]; exact cnt_out _ p (by omega)
  · intro h
    obtain ⟨h1, h2⟩ := chOK_all l 0 0 h
    refine ⟨rise_of l 0 0 none h (fun z hz => by cases hz), (tiles_iff _).2 ⟨fun x hx => ?_, fun p h0 h1' => ?_⟩⟩
    · obtain ⟨c, hc, rfl⟩ := List.mem_map.1 hx
      exact (h1 c hc (by omega)).1
    · rw [chain_cnt _ 0 (fun x hx => by obtain ⟨c, hc, rfl⟩ := List.mem_map.1 hx; exact (h1 c hc (by omega)).1) h2 p, if_pos ⟨h0, h1'⟩]
theorem may_ev (ep : Int) (l : List Pc) (h : l.length < 1000) : Ev (fun k => chart_May.f k ep l) (mayC ep l) := by
  unfold mayC
  by_cases c1 : ep < 1
  · rw [decide_eq_false (show ¬ 1 ≤ ep by omega), Bool.false_and]
    refine Ev.step (f := fun _ => some false) (fun k => ?_) (Ev.now _)
    unfold chart_May.f
    rw [if_pos c1]
    simp [chart_May.j0]
  · rw [decide_eq_true (show 1 ≤ ep by omega), Bool.true_and]
    by_cases c2 : ep > 1099511627776
    · rw [decide_eq_false (show ¬ ep ≤ 1099511627776 by omega), Bool.false_and]
      refine Ev.step (f := fun _ => some false) (fun k => ?_) (Ev.now _)
      unfold chart_May.f
      rw [if_neg c1, decide_eq_true c2]
      simp [chart_May.j0]
    · rw [decide_eq_true (show ep ≤ 1099511627776 by omega), Bool.true_and]
      have h1 := may_loop ep l h l.length 0 (by omega)
      rw [List.drop_zero, show prevP l 0 = none from rfl, may_iff] at h1
      refine Ev.step (fun k => ?_) h1
      unfold chart_May.f
      rw [if_neg c1, decide_eq_false c2]
      simp [chart_May.j0]
def ofC (p : Int) : List Pc → Int
  | [] => 0
  | y :: l => if InP y.f0 p then y.f1 else ofC p l
theorem in_f (x : Rg) (p : Int) : place_In.f x.f0 x.f1 p = some (decide (InP x p)) := by
  unfold place_In.f
  rw [may_f]
  unfold InP mayB
  by_cases h0 : MayP x
  · by_cases h1 : p ≥ x.f0 <;> by_cases h2 : p < x.f1 <;> simp [h0, h1, h2] <;> omega
  · simp [h0]
theorem of_loop (p : Int) (l : List Pc) (h : l.length < 1000) (d : Nat) : ∀ (i : Nat), i + d = l.length → Ev (fun k => chart_Of.l0 k p l (l.length : Int) (i : Int)) (ofC p (l.drop i)) := by
  induction d with
  | zero =>
    intro i hi
    have e : i = l.length := by omega
    subst e
    rw [List.drop_length]
    refine Ev.step (f := fun _ => some (ofC p [])) (fun k => ?_) (Ev.now _)
    simp only [chart_Of.l0]
    rw [if_neg (by omega)]
    rfl
  | succ d ih =>
    intro i hi
    have hlt : i < l.length := by omega
    rw [List.drop_eq_getElem_cons hlt, ofC]
    by_cases hp : InP (l[i]).f0 p
    · rw [if_pos hp]
      refine Ev.step (f := fun _ => some ((l[i]).f1)) (fun k => ?_) (Ev.now _)
      simp only [chart_Of.l0]
      rw [if_pos (by omega), if_pos (by omega), if_pos (by omega), rd_pc l i hlt, in_f, decide_eq_true hp]
      simp
    · rw [if_neg hp]
      refine Ev.step (fun k => ?_) (ih (i + 1) (by omega))
      simp only [chart_Of.l0]
      rw [if_pos (by omega), if_pos (by omega), if_pos (by omega), rd_pc l i hlt, in_f, decide_eq_false hp]
      simp only [Option.bind_some, Bool.false_eq_true, if_false]
      rw [w64_small (by omega) (by omega)]
      rfl
theorem of_ev (ep : Int) (l : List Pc) (p : Int) (h : l.length < 1000) : Ev (fun k => chart_Of.f k ep l p) (ofC p l) := by
  have h1 := of_loop p l h l.length 0 (by omega)
  rw [List.drop_zero] at h1
  exact h1
theorem pc_ext (x y : Pc) (h : ((!(x.f0.f0 == y.f0.f0) || (!(x.f0.f1 == y.f0.f1))) || (!(x.f1 == y.f1))) = false) : x = y := by
  obtain ⟨⟨a, b⟩, c⟩ := x
  obtain ⟨⟨a', b'⟩, c'⟩ := y
  simp at h
  simp [h]
theorem pc_ne (x y : Pc) (h : ((!(x.f0.f0 == y.f0.f0) || (!(x.f0.f1 == y.f0.f1))) || (!(x.f1 == y.f1))) = true) : x ≠ y := by
  rintro rfl
  simp at h
theorem psame_loop (l m : List Pc) (hl : l.length = m.length) (h : l.length < 1000) (d : Nat) : ∀ (i : Nat), i + d = l.length → Ev (fun k => api_Piece.l0 k l m (l.length : Int) (i : Int)) (decide (l.drop i = m.drop i)) := by
  induction d with
  | zero =>
    intro i hi
    have e : i = l.length := by omega
    subst e
    rw [List.drop_length, List.drop_eq_nil_of_le (by omega)]
    refine Ev.step (f := fun _ => some true) (fun k => ?_) (by simpa using Ev.now true)
    simp only [api_Piece.l0]
    rw [if_neg (by omega)]
  | succ d ih =>
    intro i hi
    have hlt : i < l.length := by omega
    have hlm : i < m.length := by omega
    rw [List.drop_eq_getElem_cons hlt, List.drop_eq_getElem_cons hlm]
    cases hq : ((!((l[i]).f0.f0 == (m[i]).f0.f0) || (!((l[i]).f0.f1 == (m[i]).f0.f1))) || (!((l[i]).f1 == (m[i]).f1))) with
    | true =>
      have hne := pc_ne _ _ hq
      rw [decide_eq_false (fun e => hne (List.cons.inj e).1)]
      refine Ev.step (f := fun _ => some false) (fun k => ?_) (Ev.now _)
      simp only [api_Piece.l0]
      rw [if_pos (by omega), if_pos (by omega), if_pos (by omega), if_pos (by omega), rd_pc l i hlt, rd_pc m i hlm, if_pos hq]
    | false =>
      have he := pc_ext _ _ hq
      have h2 := ih (i + 1) (by omega)
      rw [show decide (l[i] :: l.drop (i + 1) = m[i] :: m.drop (i + 1)) = decide (l.drop (i + 1) = m.drop (i + 1)) by rw [decide_eq_decide, he, List.cons.injEq]; exact ⟨fun h => h.2, fun h => ⟨rfl, h⟩⟩]
      refine Ev.step (fun k => ?_) h2
      simp only [api_Piece.l0]
      rw [if_pos (by omega), if_pos (by omega), if_pos (by omega), if_pos (by omega), rd_pc l i hlt, rd_pc m i hlm, if_neg (by rw [hq]; simp), w64_small (by omega) (by omega)]
      rfl
theorem same_ev (e e' : Int) (l m : List Pc) (h : l.length < 1000) : Ev (fun k => chart_Same.f k e l e' m) (decide (e = e' ∧ l = m)) := by
  by_cases h1 : e = e'
  · by_cases h2 : l.length = m.length
    · have h3 := psame_loop l m h2 h l.length 0 (by omega)
      rw [List.drop_zero, List.drop_zero] at h3
      rw [show decide (e = e' ∧ l = m) = decide (l = m) by rw [decide_eq_decide]; simp [h1]]
      refine Ev.congr (fun k => ?_) h3
      unfold chart_Same.f api_Piece.f
      rw [if_pos h1, if_pos (by omega)]
      simp
    · rw [decide_eq_false (fun hh => h2 (by rw [hh.2]))]
      refine Ev.congr (f := fun _ => some false) (fun k => ?_) (Ev.now _)
      unfold chart_Same.f api_Piece.f
      rw [if_pos h1, if_neg (by omega)]
      rfl
  · rw [decide_eq_false (fun hh => h1 hh.1)]
    refine Ev.congr (f := fun _ => some false) (fun k => ?_) (Ev.now _)
    unfold chart_Same.f
    rw [if_neg h1]
end Go.Proofs.Yteppmdafdopehaa.P.C4
