/- The plain law: a chart's text read by the code and by the document's answer: both read it if, and only if, it is the text of a chart that may be. No program in sight; texts of at most 2,900 bytes. -/
import Derived.Test.YteppmdafdopehaaPRead15
import Derived.Test.YteppmdafdopehaaGLoad
import Derived.Test.YteppmdafdopehaaGRLoad
namespace Go.Proofs.Yteppmdafdopehaa.P.C4
open Go.RowKit Go.Proofs.YteppmdafdopehaaW.PrintWords Go.Proofs.YteppmdafdopehaaW.PrintLast Go.Proofs.YteppmdafdopehaaW.PrintMore
set_option linter.unusedVariables false
def catE (vs : List Nat) : L8 := vs.flatMap enc
def flatP (l : List Pc) : List Nat := l.flatMap fun p => [p.f0.f0.toNat, p.f0.f1.toNat, p.f1.toNat]
def dumpB (ep : Int) (l : List Pc) : L8 := catE (ep.toNat :: l.length :: flatP l)
theorem catE_cons (v : Nat) (vs : List Nat) : catE (v :: vs) = enc v ++ catE vs := rfl
theorem flatP_cons (p : Pc) (l : List Pc) : flatP (p :: l) = p.f0.f0.toNat :: p.f0.f1.toNat :: p.f1.toNat :: flatP l := rfl
/-- Pieces whose numbers can be written. -/
def OkP (p : Pc) : Prop := (0 ≤ p.f0.f0 ∧ p.f0.f0 ≤ 65536) ∧ (0 ≤ p.f0.f1 ∧ p.f0.f1 ≤ 65536) ∧ (0 ≤ p.f1 ∧ p.f1 ≤ 65536)
theorem mayC_ok {ep : Int} {l : List Pc} (h : mayC ep l = true) : (1 ≤ ep ∧ ep ≤ 1099511627776) ∧ ∀ p ∈ l, OkP p := by
  unfold mayC at h
  simp only [Bool.and_eq_true, decide_eq_true_eq] at h
  refine ⟨⟨h.1, h.2.1⟩, fun p hp => ?_⟩
  obtain ⟨h1, h2, h3⟩ := (chOK_all l 0 0 h.2.2).1 p hp (by omega)
  unfold MayP at h1
  unfold OkP
  omega
theorem rd7_len {L : L8} {v j : Nat} (h : rd7 L = some (v, j)) : 1 ≤ j ∧ j ≤ L.length := by
  obtain ⟨_, h2, h3⟩ := rd7_some L v j h
  have h4 := enc_pos v
  have h5 := congrArg List.length h3
  rw [List.length_append] at h5
  omega
theorem rdump_loop (ep : Int) (l : List Pc) (hl : l.length < 1000) (hp : ∀ p ∈ l, OkP p) (d : Nat) : ∀ (i : Nat) (X : L8), i + d = l.length → X.length + 27 * d < 1000000 →
    Ev (fun k => racewayref15_Dump.l0 k (bi X) (i : Int) ep l) (⟨(X ++ catE (flatP (l.drop i))).toArray⟩, 0) := by
  induction d with
  | zero =>
    intro i X hi hX
    have e : i = l.length := by omega
    subst e
    rw [List.drop_length]
    refine Ev.step (f := fun _ => some (strOfNums (bi X), 0)) (fun k => ?_) ?_
    · simp only [racewayref15_Dump.l0]
      rw [if_neg (by omega)]
    · rw [str_bi]
      have : catE (flatP []) = [] := rfl
      rw [this, List.append_nil]
      exact Ev.now _
  | succ d ih =>
    intro i X hi hX
    have hlt : i < l.length := by omega
    rw [List.drop_eq_getElem_cons hlt, flatP_cons, catE_cons, catE_cons, catE_cons]
    have hok := hp l[i] (List.getElem_mem hlt)
    have hrd := rd_pc l i hlt
    generalize l[i] = p at hok hrd
    obtain ⟨⟨a1, a2⟩, ⟨b1, b2⟩, c1, c2⟩ := hok
    have m := max_int
    have ea := enc_le p.f0.f0.toNat (by omega)
    have eb := enc_le p.f0.f1.toNat (by omega)
    have ec := enc_le p.f1.toNat (by omega)
    have h1 := rnum_ev p.f0.f0.toNat X (by omega) (by omega)
    have h2 := rnum_ev p.f0.f1.toNat (X ++ enc p.f0.f0.toNat) (by omega) (by rw [List.length_append]; omega)
    have h3 := rnum_ev p.f1.toNat (X ++ enc p.f0.f0.toNat ++ enc p.f0.f1.toNat) (by omega) (by rw [List.length_append, List.length_append]; omega)
    have h4 := ih (i + 1) (X ++ enc p.f0.f0.toNat ++ enc p.f0.f1.toNat ++ enc p.f1.toNat) (by omega) (by rw [List.length_append, List.length_append, List.length_append]; omega)
    rw [Int.toNat_of_nonneg a1] at h1
    rw [Int.toNat_of_nonneg b1] at h2
    rw [Int.toNat_of_nonneg c1] at h3
    have h5 := Ev.bind (f := fun k a => (racewayref01_Num.f k a.1 p.f0.f1).bind fun b => (racewayref01_Num.f k b.1 p.f1).bind fun c => racewayref15_Dump.l0 k c.1 ((i + 1 : Nat) : Int) ep l) h1 (Ev.bind (f := fun k b => (racewayref01_Num.f k b.1 p.f1).bind fun c => racewayref15_Dump.l0 k c.1 ((i + 1 : Nat) : Int) ep l) h2 (Ev.bind (f := fun k c => racewayref15_Dump.l0 k c.1 ((i + 1 : Nat) : Int) ep l) h3 h4))
    rw [List.append_assoc, List.append_assoc, List.append_assoc] at h5
    refine Ev.step (fun k => ?_) h5
    simp only [racewayref15_Dump.l0]
    rw [if_pos (by omega), if_pos (by omega), hrd, w64_small (i := (i : Int) + 1) (by omega) (by omega)]
    rfl
theorem rdump_ev (ep : Int) (l : List Pc) (hl : l.length < 1000) : Ev (fun k => racewayref15_Dump.f k ep l) (if mayC ep l = true then ((⟨(dumpB ep l).toArray⟩ : ByteArray), (0 : Int)) else (⟨#[]⟩, 2)) := by
  unfold racewayref15_Dump.f
  refine Ev.bind (rmay_ev ep l hl) ?_
  cases hm : mayC ep l with
  | false => simp only [Bool.false_eq_true, if_false]; exact Ev.now _
  | true =>
    simp only [if_true]
    obtain ⟨⟨e1, e2⟩, hp⟩ := mayC_ok hm
    have m := max_int
    have ea := enc_le ep.toNat (by omega)
    have eb := enc_le l.length (by omega)
    have h1 := rnum_ev ep.toNat [] (by omega) (by simp)
    have h2 := rnum_ev l.length ([] ++ enc ep.toNat) (by omega) (by simp; omega)
    have h3 := rdump_loop ep l hl hp l.length 0 ([] ++ enc ep.toNat ++ enc l.length) (by omega) (by simp; omega)
    rw [Int.toNat_of_nonneg (by omega)] at h1
    have h4 : ([] : L8) ++ enc ep.toNat ++ enc l.length ++ catE (flatP (l.drop 0)) = dumpB ep l := by
      unfold dumpB
      rw [catE_cons, catE_cons, List.drop_zero]
      simp
    rw [h4] at h3
    exact Ev.bind h1 (Ev.bind h2 h3)
def numsF : Nat → L8 → Option (List Nat)
  | _, [] => some []
  | 0, _ :: _ => none
  | f + 1, c :: r => match rd7 (c :: r) with
    | none => none
    | some (v, j) => (numsF f ((c :: r).drop j)).map (v :: ·)
theorem numsF_some : ∀ (f : Nat) (L : L8) (vs : List Nat), numsF f L = some vs → vs.length ≤ L.length := by
  intro f
  induction f with
  | zero => intro L vs h; cases L with
    | nil => simp [numsF] at h; subst h; simp
    | cons c r => simp [numsF] at h
  | succ f ih => intro L vs h; cases L with
    | nil => simp [numsF] at h; subst h; simp
    | cons c r =>
      simp only [numsF] at h
      cases hr : rd7 (c :: r) with
      | none => rw [hr] at h; simp at h
      | some p =>
        obtain ⟨v, j⟩ := p
        rw [hr] at h
        have hj := rd7_len hr
        simp only [Option.map_eq_some_iff] at h
        obtain ⟨ws, hw, rfl⟩ := h
        have := ih _ _ hw
        simp only [List.length_drop, List.length_cons] at this ⊢
        simp only [List.length_cons] at hj
        omega
theorem numsF_cat : ∀ (vs : List Nat) (f : Nat), (catE vs).length ≤ f → (∀ v ∈ vs, v ≤ maxNum) → numsF f (catE vs) = some vs := by
  intro vs
  induction vs with
  | nil => intro f _ _; cases f <;> simp [catE, numsF]
  | cons v vs ih =>
    intro f hf hv
    rw [catE_cons] at hf ⊢
    have hp := enc_pos v
    have hr := rd7_enc v (catE vs) (hv v List.mem_cons_self)
    cases hL : enc v ++ catE vs with
    | nil => have := congrArg List.length hL; rw [List.length_append, List.length_nil] at this; omega
    | cons c r =>
      rw [List.length_append] at hf
      cases f with
      | zero => omega
      | succ f =>
        simp only [numsF]
        rw [← hL, hr]
        show (numsF f ((enc v ++ catE vs).drop (enc v).length)).map (v :: ·) = _
        rw [List.drop_left, ih f (by omega) (fun w hw => hv w (List.mem_cons_of_mem _ hw))]
        rfl
def ints (vs : List Nat) : List Int := vs.map fun v : Nat => (v : Int)
theorem rload_loop (L : L8) (hL : L.length ≤ 3000) : ∀ (f i : Nat) (acc : List Nat), i ≤ L.length → L.length - i ≤ f → acc.length + (L.length - i) ≤ 3000 →
    Ev (fun k => racewayref15_Load.l0 k (bi L) (i : Int) (ints acc)) ((numsF f (L.drop i)).map fun vs => ints (acc ++ vs)) := by
  intro f
  induction f with
  | zero =>
    intro i acc hi hf ha
    have e : i = L.length := by omega
    subst e
    rw [List.drop_length]
    refine Ev.step (f := fun _ => some (some (ints acc))) (fun k => ?_) ?_
    · simp only [racewayref15_Load.l0]
      rw [if_neg (by rw [bi_len]; omega)]
    · simp only [numsF, Option.map_some, List.append_nil]
      exact Ev.now _
  | succ f ih =>
    intro i acc hi hf ha
    by_cases hlt : i < L.length
    · have hbl := bi_len L
      obtain ⟨r, h1, h2⟩ := rread_ev (L.drop i) (by rw [List.length_drop]; omega)
      rw [bi_drop] at h1
      cases hD : L.drop i with
      | nil => have := congrArg List.length hD; rw [List.length_drop] at this; simp at this; omega
      | cons c cs =>
        simp only [numsF]
        rw [← hD]
        cases hr : rd7 (L.drop i) with
        | none =>
          rw [hr] at h2
          obtain ⟨_, _, h3⟩ := h2
          refine Ev.step (f := fun k => (racewayref01_ReadNum.f k ((bi L).drop i)).bind fun t => (if t.2.2 = 0 then (if (ints acc).length ≤ 1000000 ∧ 0 ≤ t.2.1 ∧ t.2.1 ≤ 1000 then racewayref15_Load.l0 k (bi L) ((i : Int) + t.2.1) ((ints acc) ++ [t.1]) else none) else some none)) (fun k => ?_) (Ev.bind h1 ?_)
          · simp only [racewayref15_Load.l0]
            rw [if_pos (by rw [hbl]; omega), if_pos (by omega)]
            rfl
          · simp only [if_neg h3]
            exact Ev.now _
        | some p =>
          obtain ⟨v, j⟩ := p
          rw [hr] at h2
          have hj := rd7_len hr
          obtain ⟨hvm, hjl, _⟩ := rd7_some _ _ _ hr
          have hj9 := enc_le v hvm
          rw [List.length_drop] at hj
          have h2' : r = ((v : Int), (j : Int), 0) := h2
          subst h2'
          have h3 := ih (i + j) (acc ++ [v]) (by omega) (by omega) (by simp; omega)
          rw [← List.drop_drop] at h3
          have e1 : (numsF f ((L.drop i).drop j)).map (fun vs => ints (acc ++ [v] ++ vs)) = Option.map (fun vs => ints (acc ++ vs)) (Option.map (fun x => v :: x) (numsF f ((L.drop i).drop j))) := by
            rw [Option.map_map]
            congr 1
            funext vs
            simp
          rw [e1] at h3
          have e2 : ints (acc ++ [v]) = ints acc ++ [(v : Int)] := by simp [ints]
          rw [e2] at h3
          refine Ev.step (f := fun k => (racewayref01_ReadNum.f k ((bi L).drop i)).bind fun t => (if t.2.2 = 0 then (if (ints acc).length ≤ 1000000 ∧ 0 ≤ t.2.1 ∧ t.2.1 ≤ 1000 then racewayref15_Load.l0 k (bi L) ((i : Int) + t.2.1) ((ints acc) ++ [t.1]) else none) else some none)) (fun k => ?_) (Ev.bind h1 ?_)
          · simp only [racewayref15_Load.l0]
            rw [if_pos (by rw [hbl]; omega), if_pos (by omega)]
            rfl
          · refine Ev.congr (fun k => ?_) h3
            rw [if_pos rfl, if_pos (by simp [ints]; omega)]
            rfl
    · have e : i = L.length := by omega
      subst e
      rw [List.drop_length]
      refine Ev.step (f := fun _ => some (some (ints acc))) (fun k => ?_) ?_
      · simp only [racewayref15_Load.l0]
        rw [if_neg (by rw [bi_len]; omega)]
      · simp only [numsF, Option.map_some, List.append_nil]
        exact Ev.now _
def bad : Int × List Pc × Int := (0, [], 5)
def loadR (L : L8) : Int × List Pc × Int := match numsF L.length L with
  | none => bad
  | some vs => if vs.length < 2 ∨ (vs.length - 2) % 3 ≠ 0 then bad else if mayC (rd (ints vs) 0) (pcs ((ints vs).drop 2)) = true ∧ dumpB (rd (ints vs) 0) (pcs ((ints vs).drop 2)) = L then (rd (ints vs) 0, pcs ((ints vs).drop 2), 0) else bad
theorem pcs_len3 : ∀ (n : Nat) (l : List Int), l.length ≤ n → 3 * (pcs l).length ≤ l.length := by
  intro n
  induction n with
  | zero => intro l h; have : l = [] := List.eq_nil_of_length_eq_zero (by omega); subst this; simp [pcs]
  | succ n ih =>
    intro l h
    match l, h with
    | [], _ => simp [pcs]
    | [a], _ => simp [pcs]
    | [a, b], _ => simp [pcs]
    | a :: b :: c :: r, h =>
      have := ih r (by simp at h; omega)
      simp only [pcs, List.length_cons]; omega
theorem rload_ev (s : ByteArray) (hs : s.size ≤ 2900) : Ev (fun k => racewayref15_Load.f k s) (loadR s.data.toList) := by
  unfold racewayref15_Load.f
  have hl : s.data.toList.length = s.size := by simp
  have h1 := rload_loop s.data.toList (by omega) s.data.toList.length 0 [] (by omega) (by omega) (by simp; omega)
  rw [List.drop_zero] at h1
  rw [bytes_bi]
  simp only [if_pos (show s.size ≤ 1000000000 by omega)]
  refine Ev.bind h1 ?_
  unfold loadR
  cases hn : numsF s.data.toList.length s.data.toList with
  | none => exact Ev.now _
  | some vs =>
    have hv := numsF_some _ _ _ hn
    have hil : (ints vs).length = vs.length := by simp [ints]
    simp only [Option.map_some, List.nil_append, hil]
    simp only [if_pos (show vs.length ≤ 1000000 by omega)]
    by_cases hc : vs.length < 2 ∨ (vs.length - 2) % 3 ≠ 0
    · simp only [if_pos hc]
      exact Ev.now _
    · simp only [if_neg hc]
      have hp := pcs_len3 _ ((ints vs).drop 2) (Nat.le_refl _)
      rw [List.length_drop, hil] at hp
      generalize rd (ints vs) 0 = ep
      generalize pcs ((ints vs).drop 2) = ps at hp
      refine Ev.bind (rdump_ev ep ps (by omega)) ?_
      cases hm : mayC ep ps with
      | false =>
        simp only [Bool.false_eq_true, if_false, false_and]
        simp only [if_neg (show ¬ ((2 : Int) = 0 ∧ (⟨#[]⟩ : ByteArray) = s) from fun h => by omega)]
        exact Ev.now _
      | true =>
        simp only [if_true, true_and]
        by_cases hd : dumpB ep ps = s.data.toList
        · rw [if_pos hd]
          have he : (⟨(dumpB ep ps).toArray⟩ : ByteArray) = s := by rw [hd]
          simp only [if_pos he]
          exact Ev.now _
        · rw [if_neg hd]
          have he : ¬ (⟨(dumpB ep ps).toArray⟩ : ByteArray) = s := fun h => hd (by rw [← h])
          simp only [if_neg he]
          exact Ev.now _
def ldV (L : L8) (g : Bool) : Int × L8 × Bool := match rd7 L with
  | some (v, j) => ((v : Int), L.drop j, g)
  | none => (0, L, false)
theorem ld_ev (L : L8) (g : Bool) (hL : L.length ≤ 3000) : Ev (fun k => ldNum k (bi L) g) ((ldV L g).1, bi (ldV L g).2.1, (ldV L g).2.2) := by
  unfold ldNum ldV
  obtain ⟨r, h1, h2⟩ := oread_ev L (by omega)
  refine Ev.bind h1 ?_
  have hbl := bi_len L
  cases hr : rd7 L with
  | none =>
    rw [hr] at h2
    obtain ⟨e1, e2, e3⟩ := h2
    have e4 : (r.2.2 == 0) = false := beq_eq_false_iff_ne.2 e3
    simp only [e1, e2, e4, Bool.and_false]
    rw [if_pos (by omega)]
    exact Ev.now _
  | some p =>
    obtain ⟨v, j⟩ := p
    rw [hr] at h2
    have hj := rd7_len hr
    have h2' : r = ((v : Int), (j : Int), 0) := h2
    subst h2'
    simp only [if_pos (show 0 ≤ (j : Int) ∧ (j : Int) ≤ ((bi L).length : Int) by omega), Int.toNat_natCast, bi_drop]
    have : (g && ((0 : Int) == 0)) = g := by simp
    rw [this]
    exact Ev.now _
/-- n pieces read. -/
def rdP : Nat → L8 → Option (L8 × List Pc)
  | 0, L => some (L, [])
  | n + 1, L => match rd7 L with
    | none => none
    | some (a, i) => match rd7 (L.drop i) with
      | none => none
      | some (b, j) => match rd7 ((L.drop i).drop j) with
        | none => none
        | some (c, m) => (rdP n (((L.drop i).drop j).drop m)).map fun q => (q.1, ⟨⟨(a : Int), (b : Int)⟩, (c : Int)⟩ :: q.2)
def PR (o : Option (L8 × List Pc)) (acc : List Pc) (r : List Int × Bool × List Pc) : Prop := match o with
  | some (R, ps) => r = (bi R, true, acc ++ ps)
  | none => r.2.1 = false
theorem cload_stop (n : Int) (l : List Int) (acc : List Pc) : Ev (fun k => chart_Load.l0 k n l false acc) (l, false, acc) := by
  refine Ev.step (f := fun _ => some (l, false, acc)) (fun k => ?_) (Ev.now _)
  simp only [chart_Load.l0]
  split
  · rw [if_neg (by decide)]
  · rfl
theorem ldV_bad (L : L8) : (ldV L false).2.2 = false := by unfold ldV; cases rd7 L <;> rfl
theorem ldV_len (L : L8) (g : Bool) : (ldV L g).2.1.length ≤ L.length := by
  unfold ldV
  cases rd7 L with
  | none => exact Nat.le_refl _
  | some p => simp
theorem cload_loop : ∀ (n : Nat) (L : L8) (acc : List Pc), n ≤ maxNum → acc.length + L.length ≤ 3000 →
    ∃ r, Ev (fun k => chart_Load.l0 k (n : Int) (bi L) true acc) r ∧ PR (rdP n L) acc r := by
  intro n
  induction n with
  | zero =>
    intro L acc _ _
    refine ⟨(bi L, true, acc), Ev.step (f := fun _ => some (bi L, true, acc)) (fun k => ?_) (Ev.now _), by simp [rdP, PR]⟩
    simp only [chart_Load.l0]
    rw [if_neg (by omega)]
  | succ n ih =>
    intro L acc hn hl
    have m := max_int
    have s1 : ∀ k, chart_Load.l0 (k + 1) ((n + 1 : Nat) : Int) (bi L) true acc = (ldNum k (bi L) true).bind fun a => (ldNum k a.2.1 a.2.2).bind fun b => (ldNum k b.2.1 b.2.2).bind fun c => chart_Load.l0 k ((n : Nat) : Int) c.2.1 c.2.2 (acc ++ [⟨⟨a.1, b.1⟩, c.1⟩]) := by
      intro k
      simp only [chart_Load.l0]
      rw [if_pos (by omega), if_pos trivial, if_pos (by omega), show ((n + 1 : Nat) : Int) - 1 = (n : Int) by omega]
    have la := ldV_len L true
    have ha := ld_ev L true (by omega)
    have lb := ldV_len (ldV L true).2.1 (ldV L true).2.2
    have hb := ld_ev (ldV L true).2.1 (ldV L true).2.2 (by omega)
    have hc := ld_ev (ldV (ldV L true).2.1 (ldV L true).2.2).2.1 (ldV (ldV L true).2.1 (ldV L true).2.2).2.2 (by omega)
    have step : ∀ r, Ev (fun k => chart_Load.l0 k (n : Int) (bi (ldV (ldV (ldV L true).2.1 (ldV L true).2.2).2.1 (ldV (ldV L true).2.1 (ldV L true).2.2).2.2).2.1) (ldV (ldV (ldV L true).2.1 (ldV L true).2.2).2.1 (ldV (ldV L true).2.1 (ldV L true).2.2).2.2).2.2 (acc ++ [⟨⟨(ldV L true).1, (ldV (ldV L true).2.1 (ldV L true).2.2).1⟩, (ldV (ldV (ldV L true).2.1 (ldV L true).2.2).2.1 (ldV (ldV L true).2.1 (ldV L true).2.2).2.2).1⟩])) r →
        Ev (fun k => chart_Load.l0 k ((n + 1 : Nat) : Int) (bi L) true acc) r := fun r hr =>
      Ev.step s1 (Ev.bind (f := fun k a => (ldNum k a.2.1 a.2.2).bind fun b => (ldNum k b.2.1 b.2.2).bind fun c => chart_Load.l0 k ((n : Nat) : Int) c.2.1 c.2.2 (acc ++ [⟨⟨a.1, b.1⟩, c.1⟩])) ha (Ev.bind (f := fun k b => (ldNum k b.2.1 b.2.2).bind fun c => chart_Load.l0 k ((n : Nat) : Int) c.2.1 c.2.2 (acc ++ [⟨⟨(ldV L true).1, b.1⟩, c.1⟩])) hb (Ev.bind (f := fun k c => chart_Load.l0 k ((n : Nat) : Int) c.2.1 c.2.2 (acc ++ [⟨⟨(ldV L true).1, (ldV (ldV L true).2.1 (ldV L true).2.2).1⟩, c.1⟩])) hc hr)))
    clear ha hb hc s1
    simp only [rdP]
    cases h1 : rd7 L with
    | none =>
      have e1 : ldV L true = (0, L, false) := by unfold ldV; rw [h1]
      rw [e1] at step
      simp only [ldV_bad] at step
      exact ⟨_, step _ (cload_stop _ _ _), by simp [PR]⟩
    | some p =>
      obtain ⟨a, i⟩ := p
      have e1 : ldV L true = ((a : Int), L.drop i, true) := by unfold ldV; rw [h1]
      have hi := rd7_len h1
      rw [e1] at step
      simp only at step
      simp only
      cases h2 : rd7 (L.drop i) with
      | none =>
        have e2 : ldV (L.drop i) true = (0, L.drop i, false) := by unfold ldV; rw [h2]
        rw [e2] at step
        simp only [ldV_bad] at step
        exact ⟨_, step _ (cload_stop _ _ _), by simp [PR]⟩
      | some p =>
        obtain ⟨b, j⟩ := p
        have e2 : ldV (L.drop i) true = ((b : Int), (L.drop i).drop j, true) := by unfold ldV; rw [h2]
        rw [e2] at step
        simp only at step
        simp only
        cases h3 : rd7 ((L.drop i).drop j) with
        | none =>
          have e3 : ldV ((L.drop i).drop j) true = (0, (L.drop i).drop j, false) := by unfold ldV; rw [h3]
          rw [e3] at step
          simp only at step
          exact ⟨_, step _ (cload_stop _ _ _), by simp [PR]⟩
        | some p =>
          obtain ⟨c, m'⟩ := p
          have e3 : ldV ((L.drop i).drop j) true = ((c : Int), ((L.drop i).drop j).drop m', true) := by unfold ldV; rw [h3]
          rw [e3] at step
          simp only at step
          obtain ⟨r, i1, i2⟩ := ih (((L.drop i).drop j).drop m') (acc ++ [⟨⟨(a : Int), (b : Int)⟩, (c : Int)⟩]) (by omega) (by simp only [List.length_append, List.length_drop, List.length_cons, List.length_nil]; omega)
          refine ⟨r, step r i1, ?_⟩
          simp only
          cases hq : rdP n (((L.drop i).drop j).drop m') with
          | none => rw [hq] at i2; exact i2
          | some q =>
            obtain ⟨R, ps⟩ := q
            rw [hq] at i2
            have i3 : r = (bi R, true, acc ++ [⟨⟨(a : Int), (b : Int)⟩, (c : Int)⟩] ++ ps) := i2
            rw [i3]
            simp [PR]
def loadC (L : L8) : Int × List Pc × Int := match rd7 L with
  | none => bad
  | some (v, j) => match rd7 (L.drop j) with
    | none => bad
    | some (n, i) => match rdP n ((L.drop j).drop i) with
      | none => bad
      | some (R, ps) => if R = [] ∧ mayC (v : Int) ps = true then ((v : Int), ps, 0) else bad
theorem rdP_some : ∀ (n : Nat) (L R : L8) (ps : List Pc), rdP n L = some (R, ps) → ps.length = n ∧ L = catE (flatP ps) ++ R := by
  intro n
  induction n with
  | zero => intro L R ps h; simp only [rdP, Option.some.injEq, Prod.mk.injEq] at h; obtain ⟨rfl, rfl⟩ := h; exact ⟨rfl, rfl⟩
  | succ n ih =>
    intro L R ps h
    simp only [rdP] at h
    cases h1 : rd7 L with
    | none => rw [h1] at h; cases h
    | some p =>
      obtain ⟨a, i⟩ := p
      rw [h1] at h
      simp only at h
      cases h2 : rd7 (L.drop i) with
      | none => rw [h2] at h; cases h
      | some p =>
        obtain ⟨b, j⟩ := p
        rw [h2] at h
        simp only at h
        cases h3 : rd7 ((L.drop i).drop j) with
        | none => rw [h3] at h; cases h
        | some p =>
          obtain ⟨c, m⟩ := p
          rw [h3] at h
          simp only [Option.map_eq_some_iff] at h
          obtain ⟨⟨R', qs⟩, hq, he⟩ := h
          obtain ⟨rfl, rfl⟩ := Prod.mk.inj he
          obtain ⟨i1, i2⟩ := ih _ _ _ hq
          refine ⟨by simp only [List.length_cons]; rw [i1], ?_⟩
          rw [flatP_cons, catE_cons, catE_cons, catE_cons, Int.toNat_natCast, Int.toNat_natCast, Int.toNat_natCast, List.append_assoc, List.append_assoc, List.append_assoc, ← i2, ← (rd7_some _ _ _ h3).2.2, ← (rd7_some _ _ _ h2).2.2]
          exact (rd7_some _ _ _ h1).2.2
theorem rdP_cat : ∀ (ps : List Pc) (R : L8), (∀ p ∈ ps, OkP p) → rdP ps.length (catE (flatP ps) ++ R) = some (R, ps) := by
  intro ps
  induction ps with
  | nil => intro R _; rfl
  | cons p ps ih =>
    intro R hp
    obtain ⟨⟨a1, a2⟩, ⟨b1, b2⟩, c1, c2⟩ := hp p List.mem_cons_self
    have m := max_int
    rw [flatP_cons, catE_cons, catE_cons, catE_cons, List.append_assoc, List.append_assoc, List.append_assoc, List.length_cons]
    simp only [rdP]
    rw [rd7_enc _ _ (by omega)]
    simp only [List.drop_left]
    rw [rd7_enc _ _ (by omega)]
    simp only [List.drop_left]
    rw [rd7_enc _ _ (by omega)]
    simp only [List.drop_left]
    rw [ih R (fun q hq => hp q (List.mem_cons_of_mem _ hq)), Int.toNat_of_nonneg a1, Int.toNat_of_nonneg b1, Int.toNat_of_nonneg c1]
    rfl
theorem flatP_len (l : List Pc) : (flatP l).length = 3 * l.length := by
  induction l with
  | nil => rfl
  | cons p l ih => rw [flatP_cons]; simp only [List.length_cons]; omega
theorem catE_len : ∀ (vs : List Nat), vs.length ≤ (catE vs).length := by
  intro vs
  induction vs with
  | nil => simp
  | cons v vs ih => rw [catE_cons, List.length_append, List.length_cons]; have := enc_pos v; omega
theorem cload_ev (s : ByteArray) (hs : s.size ≤ 2900) : Ev (fun k => chart_Load.f k s) (loadC s.data.toList) := by
  unfold chart_Load.f
  have hl : s.data.toList.length = s.size := by simp
  rw [bytes_bi]
  generalize s.data.toList = L at hl
  simp only [if_pos (show s.size ≤ 140737488355328 by omega)]
  have la := ldV_len L true
  refine Ev.bind (ld_ev L true (by omega)) (Ev.bind (ld_ev (ldV L true).2.1 (ldV L true).2.2 (by omega)) ?_)
  have lb := ldV_len (ldV L true).2.1 (ldV L true).2.2
  unfold loadC
  cases h1 : rd7 L with
  | none =>
    have e1 : ldV L true = (0, L, false) := by unfold ldV; rw [h1]
    rw [e1]
    simp only [ldV_bad]
    refine Ev.bind (cload_stop _ _ _) ?_
    simp only [Bool.false_eq_true, false_and, if_false]
    exact Ev.now _
  | some p =>
    obtain ⟨v, j⟩ := p
    have e1 : ldV L true = ((v : Int), L.drop j, true) := by unfold ldV; rw [h1]
    rw [e1]
    simp only
    cases h2 : rd7 (L.drop j) with
    | none =>
      have e2 : ldV (L.drop j) true = (0, L.drop j, false) := by unfold ldV; rw [h2]
      rw [e2]
      simp only
      refine Ev.bind (cload_stop _ _ _) ?_
      simp only [Bool.false_eq_true, false_and, if_false]
      exact Ev.now _
    | some p =>
      obtain ⟨n, i⟩ := p
      have e2 : ldV (L.drop j) true = ((n : Int), (L.drop j).drop i, true) := by unfold ldV; rw [h2]
      rw [e2]
      simp only
      obtain ⟨r, i1, i2⟩ := cload_loop n ((L.drop j).drop i) [] (rd7_some _ _ _ h2).1 (by simp only [List.length_drop, List.length_nil]; omega)
      refine Ev.bind i1 ?_
      cases hq : rdP n ((L.drop j).drop i) with
      | none =>
        rw [hq] at i2
        have i3 : r.2.1 = false := i2
        simp only [i3, Bool.false_eq_true, false_and, if_false]
        exact Ev.now _
      | some q =>
        obtain ⟨R, ps⟩ := q
        rw [hq] at i2
        have i3 : r = (bi R, true, [] ++ ps) := i2
        obtain ⟨q1, q2⟩ := rdP_some _ _ _ _ hq
        have q3 := congrArg List.length q2
        have q4 := catE_len (flatP ps)
        rw [flatP_len] at q4
        simp only [List.length_append, List.length_drop] at q3
        rw [i3]
        simp only [List.nil_append, true_and, bi_len]
        by_cases hR : R = []
        · subst hR
          simp only [List.length_nil, if_true]
          refine Ev.bind (may_ev (v : Int) ps (by omega)) ?_
          simp only [true_and]
          cases mayC (v : Int) ps with
          | true => exact Ev.now _
          | false => exact Ev.now _
        · have hz : ¬ R.length = 0 := fun h => hR (List.eq_nil_of_length_eq_zero h)
          simp only [if_neg hz, if_neg (show ¬ (R = [] ∧ mayC (v : Int) ps = true) from fun h => hR h.1)]
          exact Ev.now _
theorem loadC_good (ep : Int) (l : List Pc) (h : mayC ep l = true) (hl : l.length < 1000000) : loadC (dumpB ep l) = (ep, l, 0) := by
  obtain ⟨⟨h1, h2⟩, hp⟩ := mayC_ok h
  have m := max_int
  unfold loadC dumpB
  rw [catE_cons, catE_cons, rd7_enc _ _ (by omega)]
  simp only [List.drop_left]
  rw [rd7_enc _ _ (by omega)]
  simp only [List.drop_left]
  have h3 := rdP_cat l [] hp
  rw [List.append_nil] at h3
  rw [h3]
  simp only
  rw [Int.toNat_of_nonneg (by omega), if_pos ⟨trivial, h⟩]
theorem loadC_bad (L : L8) : loadC L = bad ∨ ∃ ep l, mayC ep l = true ∧ dumpB ep l = L := by
  unfold loadC
  cases h1 : rd7 L with
  | none => exact Or.inl rfl
  | some p =>
    obtain ⟨v, j⟩ := p
    simp only
    cases h2 : rd7 (L.drop j) with
    | none => exact Or.inl rfl
    | some p =>
      obtain ⟨n, i⟩ := p
      simp only
      cases hq : rdP n ((L.drop j).drop i) with
      | none => exact Or.inl rfl
      | some q =>
        obtain ⟨R, ps⟩ := q
        simp only
        by_cases hc : R = [] ∧ mayC (v : Int) ps = true
        · rw [if_pos hc]
          obtain ⟨rfl, hm⟩ := hc
          obtain ⟨q1, q2⟩ := rdP_some _ _ _ _ hq
          refine Or.inr ⟨(v : Int), ps, hm, ?_⟩
          rw [List.append_nil] at q2
          unfold dumpB
          rw [catE_cons, catE_cons, Int.toNat_natCast, q1, ← q2, ← (rd7_some _ _ _ h2).2.2]
          exact (rd7_some _ _ _ h1).2.2.symm
        · rw [if_neg hc]
          exact Or.inl rfl
theorem pcs_flat : ∀ (l : List Pc), (∀ p ∈ l, OkP p) → pcs (ints (flatP l)) = l := by
  intro l
  induction l with
  | nil => intro _; rfl
  | cons p l ih =>
    intro hp
    obtain ⟨⟨a1, a2⟩, ⟨b1, b2⟩, c1, c2⟩ := hp p List.mem_cons_self
    have h := ih (fun q hq => hp q (List.mem_cons_of_mem _ hq))
    rw [flatP_cons]
    unfold ints at h ⊢
    simp only [List.map_cons, pcs]
    rw [h, Int.toNat_of_nonneg a1, Int.toNat_of_nonneg b1, Int.toNat_of_nonneg c1]
theorem flatP_le : ∀ (l : List Pc), (∀ p ∈ l, OkP p) → ∀ v ∈ flatP l, v ≤ maxNum := by
  intro l
  induction l with
  | nil => intro _ v hv; cases hv
  | cons p l ih =>
    intro hp v hv
    obtain ⟨⟨a1, a2⟩, ⟨b1, b2⟩, c1, c2⟩ := hp p List.mem_cons_self
    have m := max_int
    rw [flatP_cons] at hv
    rcases List.mem_cons.1 hv with rfl | hv
    · omega
    rcases List.mem_cons.1 hv with rfl | hv
    · omega
    rcases List.mem_cons.1 hv with rfl | hv
    · omega
    exact ih (fun q hq => hp q (List.mem_cons_of_mem _ hq)) v hv
theorem loadR_good (ep : Int) (l : List Pc) (h : mayC ep l = true) (hl : l.length < 1000000) : loadR (dumpB ep l) = (ep, l, 0) := by
  obtain ⟨⟨h1, h2⟩, hp⟩ := mayC_ok h
  have m := max_int
  have e := numsF_cat (ep.toNat :: l.length :: flatP l) (dumpB ep l).length (Nat.le_refl _) (fun v hv => by
    rcases List.mem_cons.1 hv with rfl | hv
    · omega
    rcases List.mem_cons.1 hv with rfl | hv
    · omega
    exact flatP_le l hp v hv)
  unfold loadR
  have e' : numsF (dumpB ep l).length (dumpB ep l) = some (ep.toNat :: l.length :: flatP l) := e
  rw [e']
  have hf := flatP_len l
  have e1 : rd (ints (ep.toNat :: l.length :: flatP l)) 0 = ep := by unfold rd ints; simp; omega
  have e2 : pcs ((ints (ep.toNat :: l.length :: flatP l)).drop 2) = l := pcs_flat l hp
  simp only
  rw [e1, e2, if_neg (by simp only [List.length_cons]; omega), if_pos ⟨h, rfl⟩]
theorem loadR_bad (L : L8) : loadR L = bad ∨ ∃ ep l, mayC ep l = true ∧ dumpB ep l = L := by
  unfold loadR
  cases numsF L.length L with
  | none => exact Or.inl rfl
  | some vs =>
    simp only
    by_cases h1 : vs.length < 2 ∨ (vs.length - 2) % 3 ≠ 0
    · rw [if_pos h1]; exact Or.inl rfl
    · rw [if_neg h1]
      by_cases h2 : mayC (rd (ints vs) 0) (pcs ((ints vs).drop 2)) = true ∧ dumpB (rd (ints vs) 0) (pcs ((ints vs).drop 2)) = L
      · exact Or.inr ⟨_, _, h2⟩
      · rw [if_neg h2]; exact Or.inl rfl
theorem dumpB_len (ep : Int) (l : List Pc) : 3 * l.length + 2 ≤ (dumpB ep l).length := by
  have h := catE_len (ep.toNat :: l.length :: flatP l)
  have hf := flatP_len l
  simp only [List.length_cons] at h
  unfold dumpB
  omega
theorem loads_same (L : L8) (hL : L.length ≤ 2900) : loadC L = loadR L ∧ (loadC L = bad ∨ ∃ ep l, mayC ep l = true ∧ dumpB ep l = L ∧ loadC L = (ep, l, 0) ∧ l.length < 1000) := by
  have key : ∀ ep l, mayC ep l = true → dumpB ep l = L → loadC L = (ep, l, 0) ∧ loadR L = (ep, l, 0) ∧ l.length < 1000 := by
    intro ep l hm hd
    have h := dumpB_len ep l
    rw [hd] at h
    refine ⟨?_, ?_, by omega⟩
    · rw [← hd]; exact loadC_good ep l hm (by omega)
    · rw [← hd]; exact loadR_good ep l hm (by omega)
  rcases loadC_bad L with hc | ⟨ep, l, hm, hd⟩
  · rcases loadR_bad L with hr | ⟨ep, l, hm, hd⟩
    · exact ⟨by rw [hc, hr], Or.inl hc⟩
    · obtain ⟨k1, k2, k3⟩ := key ep l hm hd
      exact ⟨by rw [k1, k2], Or.inr ⟨ep, l, hm, hd, k1, k3⟩⟩
  · obtain ⟨k1, k2, k3⟩ := key ep l hm hd
    exact ⟨by rw [k1, k2], Or.inr ⟨ep, l, hm, hd, k1, k3⟩⟩
end Go.Proofs.Yteppmdafdopehaa.P.C4
