/- The plain law: a chart's text read by the code and by the document's answer: both read it if, and only if, it is the text of a chart that may be. No program in sight; texts of at most 2,900 bytes. -/
import Derived.Test.YteppmdafdopehaaPRead15
import Derived.Test.YteppmdafdopehaaGLoad
import Derived.Test.YteppmdafdopehaaGRLoad
namespace Go.Proofs.Yteppmdafdopehaa.P.C4
open Go.RowKit Go.Proofs.YteppmdafdopehaaW.PrintWords Go.Proofs.YteppmdafdopehaaW.PrintLast Go.Proofs.YteppmdafdopehaaW.PrintMore
set_option linter.unusedVariables false
def catE (vs : List Nat) : L8 := vs.flatMap enc
def flatP (l : List Pc) : List Nat := l.flatMap fun p => [p.f0.f0.toNat, p.f0.f1.toNat, p.f1.toNat]
def dumpB (ep : Int) (l : List Pc) : L8 := catE (ep.toNat :: l.length :: flatP l)
theorem catE_cons (v : Nat) (vs : List Nat) : catE (v :: vs) = enc v ++ catE vs := rfl
theorem flatP_cons (p : Pc) (l : List Pc) : flatP (p :: l) = p.f0.f0.toNat :: p.f0.f1.toNat :: p.f1.toNat :: flatP l := rfl
/-- Pieces whose numbers can be written. -/
def OkP (p : Pc) : Prop := (0 ≤ p.f0.f0 ∧ p.f0.f0 ≤ 65536) ∧ (0 ≤ p.f0.f1 ∧ p.f0.f1 ≤ 65536) ∧ (0 ≤ p.f1 ∧ p.f1 ≤ 65536)
theorem mayC_ok {ep : Int} {l : List Pc} (h : mayC ep l = true) : (1 ≤ ep ∧ ep ≤ 1099511627776) ∧ ∀ p ∈ l, OkP p := by
  unfold mayC at h
  simp only [Bool.and_eq_true, decide_eq_true_eq] at h
  refine ⟨⟨h.1, h.2.1⟩, fun p hp => ?_⟩
  obtain ⟨h1, h2, h3⟩ := (chOK_all l 0 0 h.2.2).1 p hp (by omega)
  unfold MayP at h1
  unfold OkP
  omega
theorem rd7_len {L : L8} {v j : Nat} (h : rd7 L = some (v, j)) : 1 ≤ j ∧ j ≤ L.length := by
  obtain ⟨_, h2, h3⟩ := rd7_some L v j h
  have h4 := enc_pos v
  have h5 := congrArg List.length h3
  rw [List.length_append] at h5
  omega
def bad : Int × List Pc × Int := (0, [], 5)
def ldV (L : L8) (g : Bool) : Int × L8 × Bool := match rd7 L with
  | some (v, j) => ((v : Int), L.drop j, g)
  | none => (0, L, false)
theorem ld_ev (L : L8) (g : Bool) (hL : L.length ≤ 3000) : Ev (fun k => ldNum k (bi L) g) ((ldV L g).1, bi (ldV L g).2.1, (ldV L g).2.2) := by
  unfold ldNum ldV
  obtain ⟨r, h1, h2⟩ := oread_ev L (by omega)
  refine Ev.bind h1 ?_
  have hbl := bi_len L
  cases hr : rd7 L with
  | none =>
    rw [hr] at h2
    obtain ⟨e1, e2, e3⟩ := h2
    have e4 : (r.2.2 == 0) = false := beq_eq_false_iff_ne.2 e3
    simp only [e1, e2, e4, Bool.and_false]
    rw [if_pos (by omega)]
    exact Ev.now _
  | some p =>
    obtain ⟨v, j⟩ := p
    rw [hr] at h2
    have hj := rd7_len hr
    have h2' : r = ((v : Int), (j : Int), 0) := h2
    subst h2'
    simp only [if_pos (show 0 ≤ (j : Int) ∧ (j : Int) ≤ ((bi L).length : Int) by omega), Int.toNat_natCast, bi_drop]
    have : (g && ((0 : Int) == 0)) = g := by simp
    rw [this]
    exact Ev.now _
/-- n pieces read. -/
def rdP : Nat → L8 → Option (L8 × List Pc)
  | 0, L => some (L, [])
  | n + 1, L => match rd7 L with
    | none => none
    | some (a, i) => match rd7 (L.drop i) with
      | none => none
      | some (b, j) => match rd7 ((L.drop i).drop j) with
        | none => none
        | some (c, m) => (rdP n (((L.drop i).drop j).drop m)).map fun q => (q.1, ⟨⟨(a : Int), (b : Int)⟩, (c : Int)⟩ :: q.2)
def PR (o : Option (L8 × List Pc)) (acc : List Pc) (r : List Int × Bool × List Pc) : Prop := match o with
  | some (R, ps) => r = (bi R, true, acc ++ ps)
  | none => r.2.1 = false
theorem cload_stop (n : Int) (l : List Int) (acc : List Pc) : Ev (fun k => chart_Load.l0 k n l false acc) (l, false, acc) := by
  refine Ev.step (f := fun _ => some (l, false, acc)) (fun k => ?_) (Ev.now _)
  simp only [chart_Load.l0]
  split
  · rw [if_neg (by decide)]
  · rfl
theorem ldV_bad (L : L8) : (ldV L false).2.2 = false := by unfold ldV; cases rd7 L <;> rfl
theorem ldV_len (L : L8) (g : Bool) : (ldV L g).2.1.length ≤ L.length := by
  unfold ldV
  cases rd7 L with
  | none => exact Nat.le_refl _
  | some p => simp
theorem cload_loop : ∀ (n : Nat) (L : L8) (acc : List Pc), n ≤ maxNum → acc.length + L.length ≤ 3000 →
    ∃ r, Ev (fun k => chart_Load.l0 k (n : Int) (bi L) true acc) r ∧ PR (rdP n L) acc r := by
  intro n
  induction n with
  | zero =>
    intro L acc _ _
    refine ⟨(bi L, true, acc), Ev.step (f := fun _ => some (bi L, true, acc)) (fun k => ?_) (Ev.now _), by simp [rdP, PR]⟩
    simp only [chart_Load.l0]
    rw [if_neg (by omega)]
  | succ n ih =>
    intro L acc hn hl
    have m := max_int
    have s1 : ∀ k, chart_Load.l0 (k + 1) ((n + 1 : Nat) : Int) (bi L) true acc = (ldNum k (bi L) true).bind fun a => (ldNum k a.2.1 a.2.2).bind fun b => (ldNum k b.2.1 b.2.2).bind fun c => chart_Load.l0 k ((n : Nat) : Int) c.2.1 c.2.2 (acc ++ [⟨⟨a.1, b.1⟩, c.1⟩]) := by
      intro k
      simp only [chart_Load.l0]
      rw [if_pos (by omega), if_pos trivial, if_pos (by omega), show ((n + 1 : Nat) : Int) - 1 = (n : Int) by omega]
    have la := ldV_len L true
    have ha := ld_ev L true (by omega)
    have lb := ldV_len (ldV L true).2.1 (ldV L true).2.2
    have hb := ld_ev (ldV L true).2.1 (ldV L true).2.2 (by omega)
    have hc := ld_ev (ldV (ldV L true).2.1 (ldV L true).2.2).2.1 (ldV (ldV L true).2.1 (ldV L true).2.2).2.2 (by omega)
    have step : ∀ r, Ev (fun k => chart_Load.l0 k (n : Int) (bi (ldV (ldV (ldV L true).2.1 (ldV L true).2.2).2.1 (ldV (ldV L true).2.1 (ldV L true).2.2).2.2).2.1) (ldV (ldV (ldV L true).2.1 (ldV L true).2.2).2.1 (ldV (ldV L true).2.1 (ldV L true).2.2).2.2).2.2 (acc ++ [⟨⟨(ldV L true).1, (ldV (ldV L true).2.1 (ldV L true).2.2).1⟩, (ldV (ldV (ldV L true).2.1 (ldV L true).2.2).2.1 (ldV (ldV L true).2.1 (ldV L true).2.2).2.2).1⟩])) r →
        Ev (fun k => chart_Load.l0 k ((n + 1 : Nat) : Int) (bi L) true acc) r := fun r hr =>
      Ev.step s1 (Ev.bind (f := fun k a => (ldNum k a.2.1 a.2.2).bind fun b => (ldNum k b.2.1 b.2.2).bind fun c => chart_Load.l0 k ((n : Nat) : Int) c.2.1 c.2.2 (acc ++ [⟨⟨a.1, b.1⟩, c.1⟩])) ha (Ev.bind (f := fun k b => (ldNum k b.2.1 b.2.2).bind fun c => chart_Load.l0 k ((n : Nat) : Int) c.2.1 c.2.2 (acc ++ [⟨⟨(ldV L true).1, b.1⟩, c.1⟩])) hb (Ev.bind (f := fun k c => chart_Load.l0 k ((n : Nat) : Int) c.2.1 c.2.2 (acc ++ [⟨⟨(ldV L true).1, (ldV (ldV L true).2.1 (ldV L true).2.2).1⟩, c.1⟩])) hc hr)))
    clear ha hb hc s1
    simp only [rdP]
    cases h1 : rd7 L with
    | none =>
      have e1 : ldV L true = (0, L, false) := by unfold ldV; rw [h1]
      rw [e1] at step
      simp only [ldV_bad] at step
      exact ⟨_, step _ (cload_stop _ _ _), by simp [PR]⟩
    | some p =>
      obtain ⟨a, i⟩ := p
      have e1 : ldV L true = ((a : Int), L.drop i, true) := by unfold ldV; rw [h1]
      have hi := rd7_len h1
      rw [e1] at step
      simp only at step
      simp only
      cases h2 : rd7 (L.drop i) with
      | none =>
        have e2 : ldV (L.drop i) true = (0, L.drop i, false) := by unfold ldV; rw [h2]
        rw [e2] at step
        simp only [ldV_bad] at step
        exact ⟨_, step _ (cload_stop _ _ _), by simp [PR]⟩
      | some p =>
        obtain ⟨b, j⟩ := p
        have e2 : ldV (L.drop i) true = ((b : Int), (L.drop i).drop j, true) := by unfold ldV; rw [h2]
        rw [e2] at step
        simp only at step
        simp only
        cases h3 : rd7 ((L.drop i).drop j) with
        | none =>
          have e3 : ldV ((L.drop i).drop j) true = (0, (L.drop i).drop j, false) := by unfold ldV; rw [h3]
          rw [e3] at step
          simp only at step
          exact ⟨_, step _ (cload_stop _ _ _), by simp [PR]⟩
        | some p =>
          obtain ⟨c, m'⟩ := p
          have e3 : ldV ((L.drop i).drop j) true = ((c : Int), ((L.drop i).drop j).drop m', true) := by unfold ldV; rw [h3]
          rw [e3] at step
          simp only at step
          obtain ⟨r, i1, i2⟩ := ih (((L.drop i).drop j).drop m') (acc ++ [⟨⟨(a : Int), (b : Int)⟩, (c : Int)⟩]) (by omega) (by simp only [List.length_append, List.length_drop, List.length_cons, List.length_nil]; omega)
          refine ⟨r, step r i1, ?_⟩
          simp only
          cases hq : rdP n (((L.drop i).drop j).drop m') with
          | none => rw [hq] at i2; exact i2
          | some q =>
            obtain ⟨R, ps⟩ := q
            rw [hq] at i2
            have i3 : r = (bi R, true, acc ++ [⟨⟨(a : Int), (b : Int)⟩, (c : Int)⟩] ++ ps) := i2
            rw [i3]
            simp [PR]
def loadC (L : L8) : Int × List Pc × Int := match rd7 L with
  | none => bad
  | some (v, j) => match rd7 (L.drop j) with
    | none => bad
    | some (n, i) => match rdP n ((L.drop j).drop i) with
      | none => bad
      | some (R, ps) => if R = [] ∧ mayC (v : Int) ps = true then ((v : Int), ps, 0) else bad
theorem rdP_some : ∀ (n : Nat) (L R : L8) (ps : List Pc), rdP n L = some (R, ps) → ps.length = n ∧ L = catE (flatP ps) ++ R := by
  intro n
  induction n with
  | zero => intro L R ps h; simp only [rdP, Option.some.injEq, Prod.mk.injEq] at h; obtain ⟨rfl, rfl⟩ := h; exact ⟨rfl, rfl⟩
  | succ n ih =>
    intro L R ps h
    simp only [rdP] at h
    cases h1 : rd7 L with
    | none => rw [h1] at h; cases h
    | some p =>
      obtain ⟨a, i⟩ := p
      rw [h1] at h
      simp only at h
      cases h2 : rd7 (L.drop i) with
      | none => rw [h2] at h; cases h
      | some p =>
        obtain ⟨b, j⟩ := p
        rw [h2] at h
        simp only at h
        cases h3 : rd7 ((L.drop i).drop j) with
        | none => rw [h3] at h; cases h
        | some p =>
          obtain ⟨c, m⟩ := p
          rw [h3] at h
          simp only [Option.map_eq_some_iff] at h
          obtain ⟨⟨R', qs⟩, hq, he⟩ := h
          obtain ⟨rfl, rfl⟩ := Prod.mk.inj he
          obtain ⟨i1, i2⟩ := ih _ _ _ hq
          refine ⟨by simp only [List.length_cons]; rw [i1], ?_⟩
          rw [flatP_cons, catE_cons, catE_cons, catE_cons, Int.toNat_natCast, Int.toNat_natCast, Int.toNat_natCast, List.append_assoc, List.append_assoc, List.append_assoc, ← i2, ← (rd7_some _ _ _ h3).2.2, ← (rd7_some _ _ _ h2).2.2]
          exact (rd7_some _ _ _ h1).2.2
theorem rdP_cat : ∀ (ps : List Pc) (R : L8), (∀ p ∈ ps, OkP p) → rdP ps.length (catE (flatP ps) ++ R) = some (R, ps) := by
  intro ps
  induction ps with
  | nil => intro R _; rfl
  | cons p ps ih =>
    intro R hp
    obtain ⟨⟨a1, a2⟩, ⟨b1, b2⟩, c1, c2⟩ := hp p List.mem_cons_self
    have m := max_int
    rw [flatP_cons, catE_cons, catE_cons, catE_cons, List.append_assoc, List.append_assoc, List.append_assoc, List.length_cons]
    simp only [rdP]
    rw [rd7_enc _ _ (by omega)]
    simp only [List.drop_left]
    rw [rd7_enc _ _ (by omega)]
    simp only [List.drop_left]
    rw [rd7_enc _ _ (by omega)]
    simp only [List.drop_left]
    rw [ih R (fun q hq => hp q (List.mem_cons_of_mem _ hq)), Int.toNat_of_nonneg a1, Int.toNat_of_nonneg b1, Int.toNat_of_nonneg c1]
    rfl
theorem flatP_len (l : List Pc) : (flatP l).length = 3 * l.length := by
  induction l with
  | nil => rfl
  | cons p l ih => rw [flatP_cons]; simp only [List.length_cons]; omega
theorem catE_len : ∀ (vs : List Nat), vs.length ≤ (catE vs).length := by
  intro vs
  induction vs with
  | nil => simp
  | cons v vs ih => rw [catE_cons, List.length_append, List.length_cons]; have := enc_pos v; omega
theorem cload_ev (s : ByteArray) (hs : s.size ≤ 2900) : Ev (fun k => chart_Load.f k s) (loadC s.data.toList) := by
  unfold chart_Load.f
  have hl : s.data.toList.length = s.size := by simp
  rw [bytes_bi]
  generalize s.data.toList = L at hl
  simp only [if_pos (show s.size ≤ 140737488355328 by omega)]
  have la := ldV_len L true
  refine Ev.bind (ld_ev L true (by omega)) (Ev.bind (ld_ev (ldV L true).2.1 (ldV L true).2.2 (by omega)) ?_)
  have lb := ldV_len (ldV L true).2.1 (ldV L true).2.2
  unfold loadC
  cases h1 : rd7 L with
  | none =>
    have e1 : ldV L true = (0, L, false) := by unfold ldV; rw [h1]
    rw [e1]
    simp only [ldV_bad]
    refine Ev.bind (cload_stop _ _ _) ?_
    simp only [Bool.false_eq_true, false_and, if_false]
    exact Ev.now _
  | some p =>
    obtain ⟨v, j⟩ := p
    have e1 : ldV L true = ((v : Int), L.drop j, true) := by unfold ldV; rw [h1]
    rw [e1]
    simp only
    cases h2 : rd7 (L.drop j) with
    | none =>
      have e2 : ldV (L.drop j) true = (0, L.drop j, false) := by unfold ldV; rw [h2]
      rw [e2]
      simp only
      refine Ev.bind (cload_stop _ _ _) ?_
      simp only [Bool.false_eq_true, false_and, if_false]
      exact Ev.now _
    | some p =>
      obtain ⟨n, i⟩ := p
      have e2 : ldV (L.drop j) true = ((n : Int), (L.drop j).drop i, true) := by unfold ldV; rw [h2]
      rw [e2]
      simp only
      obtain ⟨r, i1, i2⟩ := cload_loop n ((L.drop j).drop i) [] (rd7_some _ _ _ h2).1 (by simp only [List.length_drop, List.length_nil]; omega)
      refine Ev.bind i1 ?_
      cases hq : rdP n ((L.drop j).drop i) with
      | none =>
        rw [hq] at i2
        have i3 : r.2.1 = false := i2
        simp only [i3, Bool.false_eq_true, false_and, if_false]
        exact Ev.now _
      | some q =>
        obtain ⟨R, ps⟩ := q
        rw [hq] at i2
        have i3 : r = (bi R, true, [] ++ ps) := i2
        obtain ⟨q1, q2⟩ := rdP_some _ _ _ _ hq
        have q3 := congrArg List.length q2
        have q4 := catE_len (flatP ps)
        rw [flatP_len] at q4
        simp only [List.length_append, List.length_drop] at q3
        rw [i3]
        simp only [List.nil_append, true_and, bi_len]
        by_cases hR : R = []
        · subst hR
          simp only [List.length_nil, if_true]
          refine Ev.bind (may_ev (v : Int) ps (by omega)) ?_
          simp only [true_and]
          cases mayC (v : Int) ps with
          | true => exact Ev.now _
          | false => exact Ev.now _
        · have hz : ¬ R.length = 0 := fun h => hR (List.eq_nil_of_length_eq_zero h)
          simp only [if_neg hz, if_neg (show ¬ (R = [] ∧ mayC (v : Int) ps = true) from fun h => hR h.1)]
          exact Ev.now _
theorem loadC_good (ep : Int) (l : List Pc) (h : mayC ep l = true) (hl : l.length < 1000000) : loadC (dumpB ep l) = (ep, l, 0) := by
  obtain ⟨⟨h1, h2⟩, hp⟩ := mayC_ok h
  have m := max_int
  unfold loadC dumpB
  rw [catE_cons, catE_cons, rd7_enc _ _ (by omega)]
  simp only [List.drop_left]
  rw [rd7_enc _ _ (by omega)]
  simp only [List.drop_left]
  have h3 := rdP_cat l [] hp
  rw [List.append_nil] at h3
  rw [h3]
  simp only
  rw [Int.toNat_of_nonneg (by omega), if_pos ⟨trivial, h⟩]
theorem loadC_bad (L : L8) : loadC L = bad ∨ ∃ ep l, mayC ep l = true ∧ dumpB ep l = L := by
  unfold loadC
  cases h1 : rd7 L with
  | none => exact Or.inl rfl
  | some p =>
    obtain ⟨v, j⟩ := p
    simp only
    cases h2 : rd7 (L.drop j) with
    | none => exact Or.inl rfl
    | some p =>
      obtain ⟨n, i⟩ := p
      simp only
      cases hq : rdP n ((L.drop j).drop i) with
      | none => exact Or.inl rfl
      | some q =>
        obtain ⟨R, ps⟩ := q
        simp only
        by_cases hc : R = [] ∧ mayC (v : Int) ps = true
        · rw [if_pos hc]
          obtain ⟨rfl, hm⟩ := hc
          obtain ⟨q1, q2⟩ := rdP_some _ _ _ _ hq
          refine Or.inr ⟨(v : Int), ps, hm, ?_⟩
          rw [List.append_nil] at q2
          unfold dumpB
          rw [catE_cons, catE_cons, Int.toNat_natCast, q1, ← q2, ← (rd7_some _ _ _ h2).2.2]
          exact (rd7_some _ _ _ h1).2.2.symm
        · rw [if_neg hc]
          exact Or.inl rfl
theorem flatP_le : ∀ (l : List Pc), (∀ p ∈ l, OkP p) → ∀ v ∈ flatP l, v ≤ maxNum := by
  intro l
  induction l with
  | nil => intro _ v hv; cases hv
  | cons p l ih =>
    intro hp v hv
    obtain ⟨⟨a1, a2⟩, ⟨b1, b2⟩, c1, c2⟩ := hp p List.mem_cons_self
    have m := max_int
    rw [flatP_cons] at hv
    rcases List.mem_cons.1 hv with rfl | hv
    · omega
    rcases List.mem_cons.1 hv with rfl | hv
    · omega
    rcases List.mem_cons.1 hv with rfl | hv
    · omega
    exact ih (fun q hq => hp q (List.mem_cons_of_mem _ hq)) v hv
theorem dumpB_len (ep : Int) (l : List Pc) : 3 * l.length + 2 ≤ (dumpB ep l).length := by
  have h := catE_len (ep.toNat :: l.length :: flatP l)
  have hf := flatP_len l
  simp only [List.length_cons] at h
  unfold dumpB
  omega
end Go.Proofs.Yteppmdafdopehaa.P.C4
