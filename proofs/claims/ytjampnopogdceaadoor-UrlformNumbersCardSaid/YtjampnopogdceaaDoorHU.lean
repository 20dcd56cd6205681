/- The plain law behind urlform: bytes escaped and read again, forms parted, parsed and printed. No conditions. -/
import Derived.Lib.SplitLaws
import Derived.Lib.Join
namespace Go.Proofs.YtjampnopogdceaaDoor.P
open Go.Lib
set_option linter.unusedVariables false

abbrev L8 := List UInt8
def plainL : L8 := [65,66,67,68,69,70,71,72,73,74,75,76,77,78,79,80,81,82,83,84,85,86,87,88,89,90,97,98,99,100,101,102,103,104,105,106,107,108,109,110,111,112,113,114,115,116,117,118,119,120,121,122,48,49,50,51,52,53,54,55,56,57,45,95,46,126]
def letL : L8 := plainL ++ [42,40,41,39,33,47,58,64,36,44,59]
def largeL : L8 := [48,49,50,51,52,53,54,55,56,57,65,66,67,68,69,70]
def digitsL : L8 := [48,49,50,51,52,53,54,55,56,57,97,98,99,100,101,102,48,49,50,51,52,53,54,55,56,57,65,66,67,68,69,70]
/-- the sign of a number below 16 -/
def lg (n : Nat) : UInt8 := largeL.getD n 0
def escB (c : UInt8) : L8 := if c = 32 then [43] else if 0 ≤ indexByte plainL c then [c] else [37, lg (c.toNat / 16), lg (c.toNat % 16)]
def esc (l : L8) : L8 := l.flatMap escB
def hexI (c : UInt8) : Int := indexByte digitsL c
def hexB (h l : UInt8) : UInt8 := UInt8.ofNat ((hexI h).toNat % 16 * 16 + (hexI l).toNat % 16)
def un : L8 → Nat → L8 → L8 × Nat × Nat
  | [], _, acc => (acc, 0, 0)
  | c :: r, i, acc =>
    if c = 43 then un r (i + 1) (acc ++ [32])
    else if c = 37 then
      match r with
      | h :: l :: r' => if 0 ≤ hexI h ∧ 0 ≤ hexI l then un r' (i + 3) (acc ++ [hexB h l]) else ([], i, 5)
      | _ => ([], i, 5)
    else if 0 ≤ indexByte letL c then un r (i + 1) (acc ++ [c]) else ([], i, 5)

theorem byteAll {p : UInt8 → Prop} [DecidablePred p] (h : (List.range 256).all (fun n => decide (p (UInt8.ofNat n))) = true) (c : UInt8) : p c := by
  have h1 := List.all_eq_true.1 h c.toNat (List.mem_range.2 c.toNat_lt)
  have h2 : UInt8.ofNat c.toNat = c := by simp
  rw [h2] at h1
  exact of_decide_eq_true h1

theorem un_plus (r : L8) (i : Nat) (acc : L8) : un (43 :: r) i acc = un r (i + 1) (acc ++ [32]) := by rw [un.eq_def]; simp only [if_true]
theorem un_let (c : UInt8) (r : L8) (i : Nat) (acc : L8) (h1 : c ≠ 43) (h2 : c ≠ 37) (h3 : 0 ≤ indexByte letL c) : un (c :: r) i acc = un r (i + 1) (acc ++ [c]) := by rw [un.eq_def]; simp only [if_neg h1, if_neg h2, if_pos h3]
theorem un_hex (h l : UInt8) (r : L8) (i : Nat) (acc : L8) (h1 : 0 ≤ hexI h) (h2 : 0 ≤ hexI l) : un (37 :: h :: l :: r) i acc = un r (i + 3) (acc ++ [hexB h l]) := by
  rw [un.eq_def]
  simp only [show ¬ ((37 : UInt8) = 43) by decide, if_false, if_true, h1, h2, and_self]
theorem un_hexbad (h l : UInt8) (r : L8) (i : Nat) (acc : L8) (h1 : ¬ (0 ≤ hexI h ∧ 0 ≤ hexI l)) : un (37 :: h :: l :: r) i acc = ([], i, 5) := by
  rw [un.eq_def]
  simp only [show ¬ ((37 : UInt8) = 43) by decide, if_false, if_true, if_neg h1]
theorem un_short (r : L8) (i : Nat) (acc : L8) (h : r.length < 2) : un (37 :: r) i acc = ([], i, 5) := by
  match r, h with
  | [], _ => rw [un.eq_def]; simp only [show ¬ ((37 : UInt8) = 43) by decide, if_false, if_true]
  | [x], _ => rw [un.eq_def]; simp only [show ¬ ((37 : UInt8) = 43) by decide, if_false, if_true]
theorem un_bad (c : UInt8) (r : L8) (i : Nat) (acc : L8) (h1 : c ≠ 43) (h2 : c ≠ 37) (h3 : ¬ 0 ≤ indexByte letL c) : un (c :: r) i acc = ([], i, 5) := by rw [un.eq_def]; simp only [if_neg h1, if_neg h2, if_neg h3]

/-- each byte's escape, read -/
def escGood (c : UInt8) : Prop :=
  if c = 32 then True else if 0 ≤ indexByte plainL c then c ≠ 43 ∧ c ≠ 37 ∧ 0 ≤ indexByte letL c
  else 0 ≤ hexI (lg (c.toNat / 16)) ∧ 0 ≤ hexI (lg (c.toNat % 16)) ∧ hexB (lg (c.toNat / 16)) (lg (c.toNat % 16)) = c
instance : DecidablePred escGood := fun c => by unfold escGood; exact inferInstance
theorem escGood_all (c : UInt8) : escGood c := byteAll (by decide +kernel) c
theorem un_escB (c : UInt8) (r : L8) (i : Nat) (acc : L8) : un (escB c ++ r) i acc = un r (i + (escB c).length) (acc ++ [c]) := by
  have h := escGood_all c
  unfold escGood at h
  unfold escB
  by_cases h1 : c = 32
  · subst h1
    simp only [if_true, List.cons_append, List.nil_append, List.length_singleton]
    exact un_plus r i acc
  · rw [if_neg h1] at h ⊢
    by_cases h2 : 0 ≤ indexByte plainL c
    · rw [if_pos h2] at h ⊢
      exact un_let c r i acc h.1 h.2.1 h.2.2
    · rw [if_neg h2] at h ⊢
      have h3 := un_hex (lg (c.toNat / 16)) (lg (c.toNat % 16)) r i acc h.1 h.2.1
      rw [h.2.2] at h3
      exact h3
theorem un_esc (l : L8) : ∀ (r : L8) (i : Nat) (acc : L8), un (esc l ++ r) i acc = un r (i + (esc l).length) (acc ++ l) := by
  induction l with
  | nil => intro r i acc; simp [esc]
  | cons c l ih =>
    intro r i acc
    have e : esc (c :: l) = escB c ++ esc l := by simp [esc]
    rw [e, List.append_assoc, un_escB, ih, List.length_append]
    simp [Nat.add_assoc]
theorem un_esc_all (l : L8) : un (esc l) 0 [] = (l, 0, 0) := by
  have h := un_esc l [] 0 []
  rw [List.append_nil] at h
  rw [h, un]
  rfl
/-- what an escape's bytes are -/
def escIn (x : UInt8) : Prop := ¬ (x ≤ 32 ∨ 127 ≤ x ∨ x = 38 ∨ x = 61)
instance : DecidablePred escIn := fun x => by unfold escIn; exact inferInstance
theorem escB_in (c : UInt8) : ∀ x ∈ escB c, escIn x := byteAll (p := fun c => ∀ x ∈ escB c, escIn x) (by decide +kernel) c
theorem esc_in (l : L8) : ∀ x ∈ esc l, escIn x := by
  intro x hx
  obtain ⟨c, _, hc⟩ := List.mem_flatMap.1 hx
  exact escB_in c x hc
theorem escB_le (c : UInt8) : (escB c).length ≤ 3 := by unfold escB; split <;> (try split) <;> simp
theorem esc_le (l : L8) : (esc l).length ≤ 3 * l.length := by
  induction l with
  | nil => simp [esc]
  | cons c l ih =>
    have e : esc (c :: l) = escB c ++ esc l := by simp [esc]
    have := escB_le c
    rw [e, List.length_append, List.length_cons]; omega
theorem esc_take (l : L8) (i : Nat) (h : i < l.length) : esc (l.take (i + 1)) = esc (l.take i) ++ escB l[i] := by
  rw [List.take_succ_eq_append_getElem h, esc, esc, List.flatMap_append]; simp
theorem un_code (l : L8) : ∀ (n : Nat), l.length ≤ n → ∀ (i : Nat) (acc : L8), ((un l i acc).2.2 = 0 ∧ (un l i acc).2.1 = 0) ∨ ((un l i acc).2.2 = 5 ∧ (un l i acc).1 = [] ∧ (un l i acc).2.1 < i + l.length) := by
  intro n
  induction n generalizing l with
  | zero =>
    intro h i acc
    obtain rfl : l = [] := List.eq_nil_of_length_eq_zero (by omega)
    exact Or.inl ⟨rfl, rfl⟩
  | succ n ih =>
    intro h i acc
    match l, h with
    | [], _ => exact Or.inl ⟨rfl, rfl⟩
    | c :: r, h =>
      simp only [List.length_cons] at h
      by_cases h1 : c = 43
      · subst h1; rw [un_plus]
        rcases ih r (by omega) (i + 1) (acc ++ [32]) with h | ⟨a, b, d⟩
        · exact Or.inl h
        · exact Or.inr ⟨a, b, by simp only [List.length_cons]; omega⟩
      · by_cases h2 : c = 37
        · subst h2
          match r, h with
          | [], _ => rw [un_short _ _ _ (by simp)]; exact Or.inr ⟨rfl, rfl, by simp⟩
          | [x], _ => rw [un_short _ _ _ (by simp)]; exact Or.inr ⟨rfl, rfl, by simp⟩
          | a :: b :: r', h =>
            simp only [List.length_cons] at h
            by_cases h3 : 0 ≤ hexI a ∧ 0 ≤ hexI b
            · rw [un_hex _ _ _ _ _ h3.1 h3.2]
              rcases ih r' (by omega) (i + 3) (acc ++ [hexB a b]) with h | ⟨a, b, d⟩
              · exact Or.inl h
              · exact Or.inr ⟨a, b, by simp only [List.length_cons]; omega⟩
            · rw [un_hexbad _ _ _ _ _ h3]; exact Or.inr ⟨rfl, rfl, by simp⟩
        · by_cases h3 : 0 ≤ indexByte letL c
          · rw [un_let _ _ _ _ h1 h2 h3]
            rcases ih r (by omega) (i + 1) (acc ++ [c]) with h | ⟨a, b, d⟩
            · exact Or.inl h
            · exact Or.inr ⟨a, b, by simp only [List.length_cons]; omega⟩
          · rw [un_bad _ _ _ _ h1 h2 h3]; exact Or.inr ⟨rfl, rfl, by simp⟩

/-- a text's pieces between the signs -/
def segs (c : UInt8) : L8 → List L8
  | [] => [[]]
  | b :: r => if b = c then [] :: segs c r else match segs c r with
    | [] => [[b]]
    | p :: ps => (b :: p) :: ps
theorem segs_ne (c : UInt8) (l : L8) : segs c l ≠ [] := by
  cases l with
  | nil => simp [segs]
  | cons b r => unfold segs; split; simp; split <;> simp
theorem index_one (c b : UInt8) (l : L8) : index (b :: l) [c] = if c = b then 0 else if index l [c] == -1 then -1 else index l [c] + 1 := by
  rw [index]
  by_cases h : c = b
  · subst h; simp
  · have : ([c] : L8).isPrefixOf (b :: l) = false := by simp [List.isPrefixOf, h]
    rw [this, if_neg h]; rfl
theorem index_in (c : UInt8) (l : L8) (h : c ∈ l) : 0 ≤ index l [c] := by
  induction l with
  | nil => cases h
  | cons b l ih =>
    rw [index_one]
    split
    · exact Int.le_refl _
    · rename_i hne
      have h2 : c ∈ l := by
        rcases List.mem_cons.1 h with h | h
        · exact absurd h hne
        · exact h
      have h3 := ih h2
      have : ¬ (index l [c] == -1) = true := fun e => by have := beq_iff_eq.1 e; omega
      rw [if_neg this]; omega
theorem index_out (c : UInt8) (l : L8) (h : c ∉ l) : index l [c] = -1 := by
  induction l with
  | nil => rfl
  | cons b l ih =>
    rw [index_one, if_neg (fun e => h (by simp [e])), ih (fun e => h (List.mem_cons_of_mem _ e))]
    rfl
theorem splitK_segs (c : UInt8) (l : L8) : splitK [c] 0 (l.count c) l = segs c l := by
  induction l with
  | nil => rfl
  | cons b l ih =>
    by_cases h : b = c
    · subst h
      rw [List.count_cons_self, segs, if_pos rfl, ← ih]
      rw [splitK]
      have e : index (b :: l) [b] = 0 := by rw [index_one, if_pos rfl]
      rw [e]; rfl
    · have hne : ¬ c = b := fun e => h e.symm
      rw [List.count_cons_of_ne h, segs, if_neg h, ← ih]
      cases hn : l.count c with
      | zero => simp [splitK]
      | succ m =>
        have hin : c ∈ l := List.count_pos_iff.1 (by omega)
        have hi := index_in c l hin
        have e : index (b :: l) [c] = index l [c] + 1 := by
          rw [index_one, if_neg hne]
          have : ¬ (index l [c] == -1) = true := fun e => by have := beq_iff_eq.1 e; omega
          rw [if_neg this]
        have k1 : ¬ (index l [c] == -1) = true := fun e => by have := beq_iff_eq.1 e; omega
        have k2 : ¬ (index (b :: l) [c] == -1) = true := fun e2 => by have := beq_iff_eq.1 e2; omega
        rw [splitK, splitK, if_neg k1, if_neg k2, e]
        obtain ⟨i, hi2⟩ : ∃ i : Nat, index l [c] = i := ⟨(index l [c]).toNat, by omega⟩
        rw [hi2]
        have t : ((i : Int) + 1).toNat = i + 1 := by omega
        rw [t]
        simp
theorem segs_append (c : UInt8) (a b : L8) : segs c (a ++ c :: b) = segs c a ++ segs c b := by
  induction a with
  | nil => simp [segs]
  | cons x a ih =>
    rw [List.cons_append, segs, segs]
    by_cases h : x = c
    · rw [if_pos h, if_pos h, ih]; rfl
    · rw [if_neg h, if_neg h, ih]
      cases hs : segs c a with
      | nil => exact absurd hs (segs_ne c a)
      | cons p ps => rfl
theorem segs_none (c : UInt8) (a : L8) (h : c ∉ a) : segs c a = [a] := by
  induction a with
  | nil => rfl
  | cons x a ih =>
    rw [segs, if_neg (fun e => h (by simp [e])), ih (fun e => h (List.mem_cons_of_mem _ e))]
theorem segs_len (c : UInt8) (l : L8) : (segs c l).length ≤ l.length + 1 := by
  induction l with
  | nil => simp [segs]
  | cons b l ih =>
    rw [segs]; split
    · simp; omega
    · split
      · simp
      · rename_i h; rw [h] at ih; simp at ih ⊢; omega

theorem cut_none (c : UInt8) (l : L8) (h : c ∉ l) : cut l [c] = (l, [], false) := by
  unfold cut; rw [index_out c l h]; rfl
theorem cut_at (c : UInt8) (a b : L8) (h : c ∉ a) : cut (a ++ c :: b) [c] = (a, b, true) := by
  have e : index (a ++ c :: b) [c] = a.length := by
    induction a with
    | nil => rw [List.nil_append, index_one, if_pos rfl]; rfl
    | cons x a ih =>
      have h1 : ¬ c = x := fun e => h (by simp [e])
      have h2 := ih (fun e => h (List.mem_cons_of_mem _ e))
      have k : ¬ (index (a ++ c :: b) [c] == -1) = true := fun e2 => by have := beq_iff_eq.1 e2; omega
      rw [List.cons_append, index_one, if_neg h1, if_neg k, h2, List.length_cons]; omega
  unfold cut
  rw [e, if_pos (by omega)]
  simp

abbrev Pr := L8 × L8
/-- one piece of a form -/
def piece (p : L8) : Option Pr := if (un (cut p [61]).1 0 []).2.2 = 0 ∧ (un (cut p [61]).2.1 0 []).2.2 = 0 then some ((un (cut p [61]).1 0 []).1, (un (cut p [61]).2.1 0 []).1) else none
def parseGo : List L8 → Nat → List Pr → List Pr × Nat × Nat
  | [], _, out => (out, 0, 0)
  | p :: ps, at_, out =>
    if out.length = 1024 then ([], at_, 7)
    else if (un (cut p [61]).1 0 []).2.2 ≠ 0 then ([], at_ + (un (cut p [61]).1 0 []).2.1, 5)
    else if (un (cut p [61]).2.1 0 []).2.2 ≠ 0 then ([], at_ + (cut p [61]).1.length + 1 + (un (cut p [61]).2.1 0 []).2.1, 5)
    else parseGo ps (at_ + p.length + 1) (out ++ [((un (cut p [61]).1 0 []).1, (un (cut p [61]).2.1 0 []).1)])
def parse (l : L8) : List Pr × Nat × Nat := if 65536 < l.length then ([], 0, 3) else if l = [] then ([], 0, 0) else parseGo (segs 38 l) 0 []

theorem parseGo_ok (ps : List L8) : ∀ (k : Nat) (out r : List Pr), out.length ≤ 1024 → ((∃ a, parseGo ps k out = (r, a, 0)) ↔ ∃ m, ps.mapM piece = some m ∧ r = out ++ m ∧ (out ++ m).length ≤ 1024) := by
  induction ps with
  | nil =>
    intro k out r ho
    constructor
    · rintro ⟨a, h⟩; simp only [parseGo, Prod.mk.injEq] at h; exact ⟨[], rfl, by simp [h.1], by simpa using ho⟩
    · rintro ⟨m, h, rfl, _⟩
      have : m = [] := by simpa using h.symm
      subst this
      exact ⟨0, by simp [parseGo]⟩
  | cons p ps ih =>
    intro k out r ho
    rw [parseGo]
    by_cases h0 : out.length = 1024
    · rw [if_pos h0]
      constructor
      · rintro ⟨a, h⟩; simp at h
      · rintro ⟨m, h, rfl, hl⟩
        exfalso
        rw [List.mapM_cons] at h
        cases h1 : piece p with
        | none => rw [h1] at h; simp at h
        | some x =>
          rw [h1] at h
          cases h2 : ps.mapM piece with
          | none => rw [h2] at h; simp at h
          | some y => rw [h2] at h; simp at h; subst h; simp at hl; omega
    · rw [if_neg h0]
      by_cases h1 : (un (cut p [61]).1 0 []).2.2 = 0
      · rw [if_neg (by simpa using h1)]
        by_cases h2 : (un (cut p [61]).2.1 0 []).2.2 = 0
        · rw [if_neg (by simpa using h2), ih _ _ _ (by simp; omega)]
          have hp : piece p = some ((un (cut p [61]).1 0 []).1, (un (cut p [61]).2.1 0 []).1) := by unfold piece; rw [if_pos ⟨h1, h2⟩]
          rw [List.mapM_cons, hp]
          constructor
          · rintro ⟨m, h, rfl, hl⟩
            exact ⟨_ :: m, by rw [h]; rfl, by simp, by simpa using hl⟩
          · rintro ⟨m, h, rfl, hl⟩
            cases h3 : ps.mapM piece with
            | none => rw [h3] at h; simp at h
            | some y => rw [h3] at h; simp at h; subst h; exact ⟨y, rfl, by simp, by simpa using hl⟩
        · rw [if_pos h2]
          constructor
          · rintro ⟨a, h⟩; simp at h
          · rintro ⟨m, h, _⟩
            have hp : piece p = none := by unfold piece; rw [if_neg (fun e => h2 e.2)]
            rw [List.mapM_cons, hp] at h; simp at h
      · rw [if_pos h1]
        constructor
        · rintro ⟨a, h⟩; simp at h
        · rintro ⟨m, h, _⟩
          have hp : piece p = none := by unfold piece; rw [if_neg (fun e => h1 e.1)]
          rw [List.mapM_cons, hp] at h; simp at h
theorem parseGo_zero (ps : List L8) : ∀ (k : Nat) (out : List Pr), (parseGo ps k out).2.2 = 0 → (parseGo ps k out).2.1 = 0 := by
  induction ps with
  | nil => intro k out _; rfl
  | cons p ps ih =>
    intro k out
    rw [parseGo]
    split
    · intro h; simp at h
    · split
      · intro h; simp at h
      · split
        · intro h; simp at h
        · exact ih _ _
theorem parseGo_bad (ps : List L8) : ∀ (k : Nat) (out : List Pr), (parseGo ps k out).2.2 ≠ 0 → (parseGo ps k out).1 = [] := by
  induction ps with
  | nil => intro k out h; exact absurd rfl h
  | cons p ps ih =>
    intro k out
    rw [parseGo]
    split
    · intro _; rfl
    · split
      · intro _; rfl
      · split
        · intro _; rfl
        · exact ih _ _
theorem parse_ok {l : L8} {r : List Pr} (h0 : l.length ≤ 65536) (h1 : l ≠ []) : (parse l = (r, 0, 0)) ↔ ((segs 38 l).mapM piece = some r ∧ r.length ≤ 1024) := by
  unfold parse
  rw [if_neg (by omega), if_neg h1]
  have h := parseGo_ok (segs 38 l) 0 [] r (by simp)
  constructor
  · intro e
    obtain ⟨m, a, b, c⟩ := h.1 ⟨0, e⟩
    simp at b c; subst b; exact ⟨a, c⟩
  · rintro ⟨a, b⟩
    obtain ⟨q, e⟩ := h.2 ⟨r, a, rfl, by simpa using b⟩
    have z := parseGo_zero (segs 38 l) 0 [] (by rw [e])
    rw [e] at z ⊢
    simp at z; subst z; rfl
/-- PARTS -/
theorem parse_parts (a b : L8) (l m : List Pr) (ha : a ≠ []) (hb : b ≠ []) (h1 : a.length ≤ 2000) (h2 : b.length ≤ 2000) (ea : parse a = (l, 0, 0)) (eb : parse b = (m, 0, 0)) (hl : l.length + m.length ≤ 1024) : parse (a ++ 38 :: b) = (l ++ m, 0, 0) := by
  have pa := (parse_ok (by omega) ha).1 ea
  have pb := (parse_ok (by omega) hb).1 eb
  refine (parse_ok (by simp; omega) (by simp)).2 ⟨?_, by simp; omega⟩
  rw [segs_append, List.mapM_append, pa.1, pb.1]
  rfl
/-- MANY -/
def manyL : Nat → L8
  | 0 => []
  | 1 => [97, 61]
  | n + 2 => manyL (n + 1) ++ [38, 97, 61]
theorem manyL_segs (n : Nat) : segs 38 (manyL (n + 1)) = List.replicate (n + 1) [97, 61] := by
  induction n with
  | zero => decide
  | succ n ih =>
    rw [manyL, show ([38, 97, 61] : L8) = 38 :: [97, 61] from rfl, segs_append, ih, show segs 38 [97, 61] = [[97, 61]] by decide, List.replicate_succ' (n := n + 1)]
theorem manyL_len (n : Nat) : (manyL (n + 1)).length = 3 * n + 2 := by
  induction n with
  | zero => rfl
  | succ n ih => rw [manyL, List.length_append, ih]; simp; omega
theorem parseGo_many (n : Nat) : ∀ (k : Nat) (out : List Pr), out.length ≤ 1024 → parseGo (List.replicate n [97, 61]) k out = if out.length + n ≤ 1024 then (out ++ List.replicate n ([97], []), 0, 0) else ([], k + 3 * (1024 - out.length), 7) := by
  induction n with
  | zero => intro k out h; simp [parseGo, h]
  | succ n ih =>
    intro k out h
    rw [List.replicate_succ, parseGo]
    have c1 : cut ([97, 61] : L8) [61] = ([97], [], true) := by decide
    have c2 : un [97] 0 [] = ([97], 0, 0) := by decide
    have c3 : un [] 0 [] = ([], 0, 0) := rfl
    rw [c1]
    simp only [c2, c3]
    by_cases h0 : out.length = 1024
    · rw [if_pos h0, if_neg (by omega)]; simp [h0]
    · rw [if_neg h0, if_neg (by simp), if_neg (by simp), ih _ _ (by simp; omega)]
      by_cases h2 : out.length + (n + 1) ≤ 1024
      · rw [if_pos h2, if_pos (by simp; omega)]; simp [List.replicate_succ]
      · rw [if_neg h2, if_neg (by simp; omega)]; simp; omega
theorem parse_many (n : Nat) (h : n + 1 ≤ 2000) : parse (manyL (n + 1)) = if n + 1 ≤ 1024 then (List.replicate (n + 1) ([97], []), 0, 0) else ([], 3072, 7) := by
  unfold parse
  have hl := manyL_len n
  rw [if_neg (by omega), if_neg (by intro e; rw [e] at hl; simp at hl), manyL_segs, parseGo_many _ _ _ (by simp)]
  simp
/-- BACK -/
def printP (p : Pr) : L8 := esc p.1 ++ 61 :: esc p.2
def printL (l : List Pr) : L8 := join (l.map printP) [38]
theorem printP_no (p : Pr) : (38 : UInt8) ∉ printP p := by
  intro h
  unfold printP at h
  rcases List.mem_append.1 h with h | h
  · exact esc_in _ _ h (Or.inr (Or.inr (Or.inl rfl)))
  · rcases List.mem_cons.1 h with h | h
    · exact absurd h (by decide)
    · exact esc_in _ _ h (Or.inr (Or.inr (Or.inl rfl)))
theorem piece_print (p : Pr) : piece (printP p) = some p := by
  unfold piece printP
  rw [cut_at 61 (esc p.1) (esc p.2) (fun h => esc_in _ _ h (Or.inr (Or.inr (Or.inr rfl))))]
  simp only [un_esc_all]
  rfl
theorem segs_join (x : L8) (r : List L8) (h : ∀ y ∈ x :: r, (38 : UInt8) ∉ y) : segs 38 (join (x :: r) [38]) = x :: r := by
  induction r generalizing x with
  | nil => rw [join_one]; exact segs_none 38 x (h x (by simp))
  | cons y r ih =>
    have e : join (x :: y :: r) [38] = x ++ 38 :: join (y :: r) [38] := by
      rw [join_cons, join_cons]; simp [joinTail]
    rw [e, segs_append, ih y (fun z hz => h z (List.mem_cons_of_mem _ hz)), segs_none 38 x (h x (by simp))]
    rfl
theorem mapM_print (l : List Pr) : (l.map printP).mapM piece = some l := by
  induction l with
  | nil => rfl
  | cons p l ih => rw [List.map_cons, List.mapM_cons, piece_print, ih]; rfl
theorem parse_print (l : List Pr) (h1 : l.length ≤ 1024) (h2 : (printL l).length ≤ 65536) : parse (printL l) = (l, 0, 0) := by
  cases l with
  | nil => rfl
  | cons p l =>
    have hs : segs 38 (printL (p :: l)) = (p :: l).map printP := by
      unfold printL
      rw [List.map_cons]
      exact segs_join _ _ (fun y hy => by
        obtain ⟨q, _, rfl⟩ := List.mem_map.1 (show y ∈ (p :: l).map printP from hy)
        exact printP_no q)
    have hne : printL (p :: l) ≠ [] := by
      intro e
      rw [e] at hs
      rw [segs, List.map_cons] at hs
      have h3 : ([] : L8) = printP p := (List.cons.inj hs).1
      unfold printP at h3
      simp at h3
    exact (parse_ok h2 hne).2 ⟨by rw [hs]; exact mapM_print _, h1⟩
end Go.Proofs.YtjampnopogdceaaDoor.P
