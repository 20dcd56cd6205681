/- The numbered names: few, Under, and Numbered of the document, as the print has them, in plain words. No conditions. -/
import Derived.Test.YtjampnopogdceaaDoorP9
import Derived.Test.YtjampnopogdceaaDoorP13
import Derived.Test.YtjampnopogdceaaDoorP15
import Derived.Test.YtjampnopogdceaaDoorP16
import Derived.Test.YtjampnopogdceaaDoorPAtoi26
import Derived.Test.YtjampnopogdceaaDoorGNum
namespace Go.Proofs.YtjampnopogdceaaDoor.P
open Go.RowKit Go.Lib Go.Proofs.YtjampnopogdceaaDoorW.PrintWords Go.Proofs.YtjampnopogdceaaDoorW.PrintLast
set_option linter.unusedVariables false

def shortP (m : List Pr) : Prop := m.length ≤ 1030 ∧ ∀ p ∈ m, p.1.length ≤ 100 ∧ p.2.length ≤ 100
theorem rdS (l : List S45) (i : Nat) (h : i < l.length) : rd_T45 l (i : Int) = l[i]'h := by unfold rd_T45; simp [h]
theorem few_loop (l : List S45) : ∀ (d i : Nat) (m : List Pr), min l.length 1030 - i ≤ d → i ≤ min l.length 1030 → m.length = i → (∀ p ∈ m, p.1.length ≤ 100 ∧ p.2.length ≤ 100) →
    ∃ m', shortP m' ∧ Ev (fun k => racewaylaw26_few.l0 k l (m.map toS) (i : Int)) (m'.map toS) := by
  intro d
  induction d with
  | zero =>
    intro i m h1 h2 h3 h4
    refine ⟨m, ⟨by omega, h4⟩, Ev.step (f := fun _ => some (m.map toS)) (fun k => ?_) (Ev.now _)⟩
    simp only [racewaylaw26_few.l0]
    by_cases hl : i < l.length
    · rw [if_pos (by omega), if_neg (by omega)]
    · rw [if_neg (by omega)]
  | succ d ih =>
    intro i m h1 h2 h3 h4
    by_cases hlt : i < min l.length 1030
    · have hi : i < l.length := by omega
      obtain ⟨a, ea, la, _⟩ := cutTo (l[i]'hi).f0 100
      obtain ⟨b, eb, lb, _⟩ := cutTo (l[i]'hi).f1 100
      have m0 := mn_ok (l[i]'hi).f0 100
      have m1 := mn_ok (l[i]'hi).f1 100
      rw [show ((100 : Nat) : Int) = 100 from rfl] at ea eb m0 m1
      obtain ⟨m', hm, hev⟩ := ih (i + 1) (m ++ [(a, b)]) (by omega) (by omega) (by simp; omega) (fun p hp => by
        rcases List.mem_append.1 hp with hp | hp
        · exact h4 p hp
        · rw [List.mem_singleton.1 hp]; exact ⟨la, lb⟩)
      refine ⟨m', hm, Ev.step (f := fun k => racewaylaw26_few.l0 k l ((m ++ [(a, b)]).map toS) ((i + 1 : Nat) : Int)) (fun k => ?_) hev⟩
      have w1 : wrap64 ((i : Int) + 1) = ((i + 1 : Nat) : Int) := wrapN (by omega) (by omega)
      have e : (m ++ [(a, b)]).map toS = m.map toS ++ [(⟨ofL a, ofL b⟩ : S45)] := by simp [toS]
      simp only [racewaylaw26_few.l0]
      rw [rdS l i hi, w1, e]
      clear w1
      rw [if_pos (by omega), if_pos (by omega), if_pos (by omega), if_pos m0.1, if_pos m0.2, if_pos m1.1, if_pos m1.2, if_pos (by rw [List.length_map]; omega), ea, eb]
    · refine ⟨m, ⟨by omega, h4⟩, Ev.step (f := fun _ => some (m.map toS)) (fun k => ?_) (Ev.now _)⟩
      simp only [racewaylaw26_few.l0]
      by_cases hl : i < l.length
      · rw [if_pos (by omega), if_neg (by omega)]
      · rw [if_neg (by omega)]
theorem few_ev (l : List S45) : ∃ m, shortP m ∧ Ev (fun k => racewaylaw26_few.f k l) (m.map toS) :=
  few_loop l (min l.length 1030) 0 [] (by omega) (by omega) rfl (by simp)
/-- what stands ahead of a sign -/
def tw (c : UInt8) : L8 → L8
  | [] => []
  | b :: r => if b = c then [] else b :: tw c r
theorem tw_le (c : UInt8) (l : L8) : (tw c l).length ≤ l.length := by
  induction l with
  | nil => simp [tw]
  | cons b r ih => unfold tw; split <;> simp <;> omega
theorem tw_take (c : UInt8) (l : L8) : l.take (tw c l).length = tw c l := by
  induction l with
  | nil => simp [tw]
  | cons b r ih => unfold tw; split <;> simp [ih]
theorem index_tw (c : UInt8) (l : L8) : index l [c] = if (tw c l).length < l.length then ((tw c l).length : Int) else -1 := by
  induction l with
  | nil => rfl
  | cons b r ih =>
    by_cases h : b = c
    · subst h
      have ht : tw b (b :: r) = [] := by rw [tw, if_pos rfl]
      rw [index_one, if_pos rfl, ht]; simp
    · have ht : tw c (b :: r) = b :: tw c r := by rw [tw, if_neg h]
      rw [index_one, if_neg (fun e => h e.symm), ih, ht]
      by_cases h2 : (tw c r).length < r.length
      · have hn : ¬ (((tw c r).length : Int) == -1) = true := by intro e; have := beq_iff_eq.1 e; omega
        rw [if_pos h2, if_neg hn, if_pos (by simp only [List.length_cons]; omega)]
        simp only [List.length_cons]; omega
      · rw [if_neg h2, if_pos (by decide), if_neg (by simp only [List.length_cons]; omega)]
theorem cut_tw (c : UInt8) (p : L8) : (cut p [c]).1 = tw c p ∧ (cut p [c]).2.1 = p.drop ((tw c p).length + 1) := by
  unfold cut
  rw [index_tw]
  by_cases h : (tw c p).length < p.length
  · rw [if_pos h, if_pos (by omega)]
    simp [tw_take]
  · rw [if_neg h, if_neg (by omega)]
    have hl := tw_le c p
    have e : (tw c p).length = p.length := by omega
    refine ⟨?_, ?_⟩
    · have := tw_take c p
      rw [e, List.take_length] at this
      exact this
    · rw [List.drop_eq_nil_of_le (by omega)]
theorem ext_list (s : ByteArray) (i j : Nat) : s.extract i j = ofL ((s.data.toList.drop i).take (j - i)) := by
  rw [← Lib.mk_data (s.extract i j), Lib.extract_data]; rfl

/-- the rest of a name behind a prefix -/
def restOf (q : L8) (n : L8) : Option L8 := if n.take (q.length + 1) = q ++ [46] then some (n.drop (q.length + 1)) else none
def under (q : L8) : List Pr → List Pr
  | [] => []
  | p :: r => match restOf q p.1 with | none => under q r | some n => (n, p.2) :: under q r
theorem under_len (q : L8) (m : List Pr) : (under q m).length ≤ m.length := by
  induction m with
  | nil => simp [under]
  | cons p r ih => rw [under]; split <;> simp <;> omega
theorem under_short (q : L8) (m : List Pr) (h : ∀ p ∈ m, p.1.length ≤ 100) : ∀ p ∈ under q m, p.1.length ≤ 100 := by
  induction m with
  | nil => simp [under]
  | cons p r ih =>
    have hr := ih (fun x hx => h x (List.mem_cons_of_mem _ hx))
    have hp := h p (by simp)
    intro x hx
    rw [under] at hx
    split at hx
    · exact hr x hx
    · rename_i n hn
      unfold restOf at hn
      split at hn
      · cases hn
        rcases List.mem_cons.1 hx with hx | hx
        · rw [hx]; simp; omega
        · exact hr x hx
      · cases hn
theorem take_short {q n : L8} (h : n.length < q.length + 1) : n.take (q.length + 1) ≠ q ++ [46] := by
  intro e
  have := congrArg List.length e
  rw [List.length_take, List.length_append, List.length_singleton] at this
  omega
theorem ext0 (n : L8) (k : Nat) : ((ofL n).extract 0 k).toList = n.take k := by rw [ext_list, toList_ofL, ofL_list, List.drop_zero, Nat.sub_zero]
theorem extE (n : L8) (k : Nat) : (ofL n).extract k (ofL n).size = ofL (n.drop k) := by
  rw [ext_list, ofL_list, ofL_size]
  congr 1
  rw [← List.length_drop, List.take_length]
theorem prefOf (q : L8) : ofL q ++ (⟨#[46]⟩ : ByteArray) = ofL (q ++ [46]) := ofL_app q [46]
theorem cutPref (q n : L8) : strings_CutPrefix.f (ofL n) (ofL (q ++ [46])) = some (match restOf q n with | none => (ofL n, false) | some r => (ofL r, true)) := by
  unfold strings_CutPrefix.f stringslite_CutPrefix.f stringslite_HasPrefix.f restOf
  have e1 : ((ofL (q ++ [46])).size : Int) = ((q.length + 1 : Nat) : Int) := by rw [ofL_size]; simp
  have e2 : ((ofL n).size : Int) = (n.length : Int) := by rw [ofL_size]
  by_cases h : q.length + 1 ≤ n.length
  · rw [if_pos (by omega), if_pos (by omega), if_pos (by omega), e1, Int.toNat_natCast, ext0, toList_ofL]
    simp only [Option.bind_some]
    by_cases he : n.take (q.length + 1) = q ++ [46]
    · rw [if_pos he, if_pos (beq_iff_eq.2 he), if_pos (by omega), if_pos (by omega), extE]; rfl
    · rw [if_neg he, if_neg (by simpa using he)]; rfl
  · rw [if_neg (by omega), if_neg (take_short (by omega))]; rfl
theorem under_drop (q : L8) (m : List Pr) (i : Nat) (h : i < m.length) : under q (m.drop i) = (match restOf q (m[i]'h).1 with | none => [] | some n => [(n, (m[i]'h).2)]) ++ under q (m.drop (i + 1)) := by
  rw [List.drop_eq_getElem_cons h, under]
  split <;> simp [*]
theorem rdM (m : List Pr) (i : Nat) (h : i < m.length) : rd_T45 (m.map toS) (i : Int) = toS (m[i]'h) := by rw [rdS _ i (by simpa using h)]; simp
theorem under_loop (q : L8) (hq : q.length ≤ 50) (m : List Pr) (hm : m.length ≤ 1030) : ∀ (d i : Nat) (out : List Pr), m.length - i ≤ d → i ≤ m.length → out.length ≤ i → Ev (fun k => urlform_Under.l0 k (ofL q) (out.map toS) (m.map toS) (m.length : Int) (i : Int)) ((out ++ under q (m.drop i)).map toS) := by
  have fin : ∀ (i : Nat) (out : List Pr), m.length ≤ i → Ev (fun k => urlform_Under.l0 k (ofL q) (out.map toS) (m.map toS) (m.length : Int) (i : Int)) ((out ++ under q (m.drop i)).map toS) := by
    intro i out h
    refine Ev.step (f := fun _ => some (out.map toS)) (fun k => ?_) (Ev.congr (fun _ => ?_) (Ev.now _))
    · simp only [urlform_Under.l0]; rw [if_neg (by omega)]
    · rw [List.drop_eq_nil_of_le h, under, List.append_nil]
  intro d
  induction d with
  | zero => intro i out h1 h2 h3; exact fin i out (by omega)
  | succ d ih =>
    intro i out h1 h2 h3
    by_cases hlt : i < m.length
    · have w1 : wrap64 ((i : Int) + 1) = ((i + 1 : Nat) : Int) := by rw [wrapN (by omega) (by omega)]; omega
      have hr := rdM m i hlt
      rw [under_drop q m i hlt]
      generalize m[i]'hlt = p at hr
      have hc := cutPref q p.1
      cases hp : restOf q p.1 with
      | none =>
        rw [hp] at hc
        refine Ev.step (f := fun k => urlform_Under.l0 k (ofL q) (out.map toS) (m.map toS) (m.length : Int) ((i + 1 : Nat) : Int)) (fun k => ?_) (by simpa using ih (i + 1) out (by omega) (by omega) (by omega))
        simp only [urlform_Under.l0]
        rw [hr, w1, if_pos (by omega), if_pos (by omega), if_pos (by rw [List.length_map]; omega), if_pos (by rw [ofL_size]; omega), prefOf, show (toS p).f0 = ofL p.1 from rfl, hc]
        simp only [Option.bind_some]
        rw [if_neg (by decide)]
      | some n =>
        rw [hp] at hc
        have hx := ih (i + 1) (out ++ [(n, p.2)]) (by omega) (by omega) (by simp; omega)
        rw [List.append_assoc] at hx
        refine Ev.step (f := fun k => urlform_Under.l0 k (ofL q) ((out ++ [(n, p.2)]).map toS) (m.map toS) (m.length : Int) ((i + 1 : Nat) : Int)) (fun k => ?_) hx
        simp only [urlform_Under.l0]
        rw [hr, w1, if_pos (by omega), if_pos (by omega), if_pos (by rw [List.length_map]; omega), if_pos (by rw [ofL_size]; omega), prefOf, show (toS p).f0 = ofL p.1 from rfl, hc]
        simp only [Option.bind_some]
        rw [if_pos trivial, if_pos (by rw [List.length_map]; omega)]
        congr 1
        simp [toS]
    · exact fin i out (by omega)
theorem under_ev (q : L8) (hq : q.length ≤ 50) (m : List Pr) (hm : m.length ≤ 1030) : Ev (fun k => urlform_Under.f k (m.map toS) (ofL q)) ((under q m).map toS) := by
  have := under_loop q hq m hm m.length 0 [] (by omega) (by omega) (by simp)
  refine Ev.congr (fun k => ?_) this
  unfold urlform_Under.f
  rw [List.length_map]; rfl
theorem runder_loop (q : L8) (hq : q.length ≤ 50) (m : List Pr) (hm : m.length ≤ 1030) : ∀ (d i : Nat) (out : List Pr), m.length - i ≤ d → i ≤ m.length → out.length ≤ i → Ev (fun k => racewayref26_Under.l0 k (m.map toS) (ofL (q ++ [46])) (out.map toS) (i : Int)) ((out ++ under q (m.drop i)).map toS) := by
  have fin : ∀ (i : Nat) (out : List Pr), m.length ≤ i → Ev (fun k => racewayref26_Under.l0 k (m.map toS) (ofL (q ++ [46])) (out.map toS) (i : Int)) ((out ++ under q (m.drop i)).map toS) := by
    intro i out h
    refine Ev.step (f := fun _ => some (out.map toS)) (fun k => ?_) (Ev.congr (fun _ => ?_) (Ev.now _))
    · simp only [racewayref26_Under.l0]; rw [if_neg (by rw [List.length_map]; omega)]
    · rw [List.drop_eq_nil_of_le h, under, List.append_nil]
  intro d
  induction d with
  | zero => intro i out h1 h2 h3; exact fin i out (by omega)
  | succ d ih =>
    intro i out h1 h2 h3
    by_cases hlt : i < m.length
    · have w1 : wrap64 ((i : Int) + 1) = ((i + 1 : Nat) : Int) := by rw [wrapN (by omega) (by omega)]; omega
      have hr := rdM m i hlt
      rw [under_drop q m i hlt]
      generalize m[i]'hlt = p at hr
      have e1 : ((ofL (q ++ [46])).size : Int) = ((q.length + 1 : Nat) : Int) := by rw [ofL_size]; simp
      have e2 : ((toS p).f0.size : Int) = (p.1.length : Int) := by rw [show (toS p).f0 = ofL p.1 from rfl, ofL_size]
      by_cases hsz : q.length + 1 ≤ p.1.length
      · by_cases he : p.1.take (q.length + 1) = q ++ [46]
        · have hp : restOf q p.1 = some (p.1.drop (q.length + 1)) := by unfold restOf; rw [if_pos he]
          rw [hp]
          have hx := ih (i + 1) (out ++ [(p.1.drop (q.length + 1), p.2)]) (by omega) (by omega) (by simp; omega)
          rw [List.append_assoc] at hx
          refine Ev.step (f := fun k => racewayref26_Under.l0 k (m.map toS) (ofL (q ++ [46])) ((out ++ [(p.1.drop (q.length + 1), p.2)]).map toS) ((i + 1 : Nat) : Int)) (fun k => ?_) hx
          simp only [racewayref26_Under.l0]
          rw [hr, w1, e1, e2, Int.toNat_natCast, show (toS p).f0 = ofL p.1 from rfl, extE, ext0, toList_ofL]
          rw [if_pos (by rw [List.length_map]; omega), if_pos (by omega), if_pos (by omega), if_pos (by omega), if_pos (by omega), if_pos he, if_pos (by rw [List.length_map]; omega)]
          congr 1
          simp [toS]
        · have hp : restOf q p.1 = none := by unfold restOf; rw [if_neg he]
          rw [hp]
          refine Ev.step (f := fun k => racewayref26_Under.l0 k (m.map toS) (ofL (q ++ [46])) (out.map toS) ((i + 1 : Nat) : Int)) (fun k => ?_) (by simpa using ih (i + 1) out (by omega) (by omega) (by omega))
          simp only [racewayref26_Under.l0]
          rw [hr, w1, e1, e2, Int.toNat_natCast, show (toS p).f0 = ofL p.1 from rfl, ext0, toList_ofL]
          rw [if_pos (by rw [List.length_map]; omega), if_pos (by omega), if_pos (by omega), if_pos (by omega), if_pos (by omega), if_neg he]
      · have hp : restOf q p.1 = none := by unfold restOf; rw [if_neg (take_short (by omega))]
        rw [hp]
        refine Ev.step (f := fun k => racewayref26_Under.l0 k (m.map toS) (ofL (q ++ [46])) (out.map toS) ((i + 1 : Nat) : Int)) (fun k => ?_) (by simpa using ih (i + 1) out (by omega) (by omega) (by omega))
        simp only [racewayref26_Under.l0]
        rw [hr, w1, e1, e2]
        rw [if_pos (by rw [List.length_map]; omega), if_pos (by omega), if_neg (by omega)]
    · exact fin i out (by omega)
theorem runder_ev (q : L8) (hq : q.length ≤ 50) (m : List Pr) (hm : m.length ≤ 1030) : Ev (fun k => racewayref26_Under.f k (m.map toS) (ofL q)) ((under q m).map toS) := by
  have := runder_loop q hq m hm m.length 0 [] (by omega) (by omega) (by simp)
  refine Ev.congr (fun k => ?_) this
  unfold racewayref26_Under.f
  rw [if_pos (by rw [ofL_size]; omega), prefOf]; rfl

/-- the document's list of marks -/
structure Marks (ins : List Bool) (ks : List Int) : Prop where
  len : ins.length = 1001
  at_ : ∀ n : Nat, 1 ≤ n → n ≤ 1000 → (ins.getD n false = true ↔ (n : Int) ∈ ks)
theorem Marks.start : Marks (List.replicate 1001 false) [] := ⟨List.length_replicate, fun n h1 h2 => by
  rw [List.getD_eq_getElem?_getD, List.getElem?_replicate]
  split <;> simp⟩
theorem Marks.put {ins : List Bool} {ks : List Int} (h : Marks ins ks) (n : Nat) (h1 : 1 ≤ n) (h2 : n ≤ 1000) : Marks (ins.set n true) (ks ++ [(n : Int)]) := ⟨by rw [List.length_set]; exact h.len, fun j hj1 hj2 => by
  have hlen := h.len
  rw [List.mem_append, List.mem_singleton, ← h.at_ j hj1 hj2, List.getD_eq_getElem?_getD, List.getD_eq_getElem?_getD, List.getElem?_set]
  by_cases e : n = j
  · subst e; rw [if_pos rfl, if_pos (by omega)]; simp
  · rw [if_neg e]
    constructor
    · intro hh; exact Or.inl hh
    · rintro (hh | hh)
      · exact hh
      · omega⟩
def numsTo (ks : List Int) (n : Nat) : List Int := ((List.range n).map (fun n : Nat => (n : Int) + 1)).filter (fun n => decide (n ∈ ks))
theorem numsTo_step (ks : List Int) (n : Nat) : numsTo ks (n + 1) = numsTo ks n ++ (if ((n : Int) + 1) ∈ ks then [(n : Int) + 1] else []) := by
  unfold numsTo
  rw [List.range_succ, List.map_append, List.filter_append]
  congr 1
  by_cases h : ((n : Int) + 1) ∈ ks <;> simp [h]
theorem numsTo_len (ks : List Int) (n : Nat) : (numsTo ks n).length ≤ n := by unfold numsTo; exact Nat.le_trans (List.length_filter_le _ _) (by simp)
theorem l2_ev (ins : List Bool) (ks : List Int) (hM : Marks ins ks) : ∀ (d n : Nat), 1000 - n ≤ d → n ≤ 1000 → Ev (fun k => racewayref26_Numbered.l2 k ins (numsTo ks n) ((n + 1 : Nat) : Int)) (numsOf ks, 0) := by
  intro d
  have fin : ∀ n : Nat, 1000 ≤ n → n ≤ 1000 → Ev (fun k => racewayref26_Numbered.l2 k ins (numsTo ks n) ((n + 1 : Nat) : Int)) (numsOf ks, 0) := by
    intro n h1 h2
    obtain rfl : n = 1000 := by omega
    refine Ev.step (f := fun _ => some (numsTo ks 1000, (0 : Int))) (fun k => ?_) (Ev.now _)
    simp only [racewayref26_Numbered.l2]
    rw [if_neg (by omega)]
  induction d with
  | zero => intro n h1 h2; exact fin n (by omega) h2
  | succ d ih =>
    intro n h1 h2
    by_cases hlt : n < 1000
    · have w1 : wrap64 (((n + 1 : Nat) : Int) + 1) = ((n + 1 + 1 : Nat) : Int) := by rw [wrapN (by omega) (by omega)]; omega
      have hlen := hM.len
      have hat := hM.at_ (n + 1) (by omega) (by omega)
      have hl := numsTo_len ks n
      have hx := ih (n + 1) (by omega) (by omega)
      rw [numsTo_step] at hx
      refine Ev.step (fun k => ?_) hx
      simp only [racewayref26_Numbered.l2]
      rw [w1, if_pos (by omega), if_pos (by omega), if_pos (by omega)]
      have e1 : rdOf false ins ((n + 1 : Nat) : Int) = ins.getD (n + 1) false := by unfold rdOf; rw [Int.toNat_natCast]
      rw [e1]
      have e2 : ((n + 1 : Nat) : Int) = (n : Int) + 1 := by omega
      rw [e2] at hat
      by_cases hk : ((n : Int) + 1) ∈ ks
      · rw [if_pos (hat.2 hk), if_pos hk, if_pos (by omega), e2]
      · rw [if_neg (fun h => hk (hat.1 h)), if_neg hk, List.append_nil]
    · exact fin n (by omega) h2

def numR (o : Option (List Int)) : List Int × Int := match o with | none => ([], 5) | some ks => (numsOf ks, 0)
def dvAt (p : Pr) : Option Nat := dv (tw 46 p.1)
theorem numGo_dv (p : Pr) (r : List S45) (ks : List Int) : numGo (toS p :: r) ks = match dvAt p with | none => none | some n => numGo r (ks ++ [(n : Int)]) := by
  have h := atoi_dv (tw 46 p.1)
  have e : numAt (toS p) = atoi (tw 46 p.1) := by unfold numAt; rw [show (toS p).f0 = ofL p.1 from rfl, ofL_list, (cut_tw 46 p.1).1]
  rw [numGo, e]
  unfold dvAt
  cases hd : dv (tw 46 p.1) with
  | none => rw [hd] at h; exact if_pos h
  | some n =>
    rw [hd] at h
    obtain ⟨h1, h2, h3⟩ := h
    rw [h1, if_neg (by show ¬ ((0 : Nat) ≠ 0 ∨ (n : Int) < 1 ∨ 1000 < (n : Int)); omega)]
section
variable (u : List Pr) (hu : u.length ≤ 1030) (hn : ∀ p ∈ u, p.1.length ≤ 100)
/-- the body behind the cut -/
def nbody (x6 : List S45) (x7 : List Bool) (x8 : Int) (k : Nat) (r : Int × Int) : Option (List Int × Int) :=
  if r.2 = 0 then (if r.1 < 1 then (some (([] : List Int), 5)) else (if r.1 > 1000 then (some (([] : List Int), 5)) else (if 0 ≤ r.1 then (if r.1 < (x7.length : Int) then (racewayref26_Numbered.l0 k x6 (x7.set (r.1 : Int).toNat true) (wrap64 (x8 + 1))) else (none)) else (none)))) else (some (([] : List Int), 5))
theorem l1_ev (i : Nat) (hi : i < u.length) (ins : List Bool) (r : List Int × Int) (nm : L8) (hnm : (u[i]'hi).1 = nm) (hl : nm.length ≤ 100)
    (hb : Ev (fun k => (racewayref22_Atoi.f k (ofL (tw 46 nm))).bind (nbody (u.map toS) ins (i : Int) k)) r) :
    ∀ (d j : Nat), nm.length - j ≤ d → j ≤ nm.length → tw 46 nm = nm.take j ++ tw 46 (nm.drop j) → Ev (fun k => racewayref26_Numbered.l1 k (u.map toS) ins (i : Int) (j : Int)) r := by
  have hr : (rd_T45 (u.map toS) (i : Int)).f0 = ofL nm := by rw [rdM u i hi, ← hnm]; rfl
  have hsz : (((ofL nm).size : Nat) : Int) = (nm.length : Int) := by rw [ofL_size]
  have fin : ∀ j : Nat, nm.length ≤ j → j ≤ nm.length → tw 46 nm = nm.take j ++ tw 46 (nm.drop j) → Ev (fun k => racewayref26_Numbered.l1 k (u.map toS) ins (i : Int) (j : Int)) r := by
    intro j h1 h2 ht
    rw [List.drop_eq_nil_of_le h1, tw, List.append_nil] at ht
    refine Ev.step (fun k => ?_) hb
    simp only [racewayref26_Numbered.l1]
    rw [hr, hsz, if_pos (by omega), if_pos (by rw [List.length_map]; omega), if_neg (by omega), if_pos (by omega), if_pos (by omega), Int.toNat_natCast, ext_list, List.drop_zero, Nat.sub_zero, ofL_list, ← ht]
    rfl
  intro d
  induction d with
  | zero => intro j h1 h2 ht; exact fin j (by omega) h2 ht
  | succ d ih =>
    intro j h1 h2 ht
    by_cases hlt : j < nm.length
    · have w1 : wrap64 ((j : Int) + 1) = ((j + 1 : Nat) : Int) := by rw [wrapN (by omega) (by omega)]; omega
      have hbt := btNat (ofL nm) j (by rw [ofL_size]; exact hlt)
      have hda := drop_at (ofL nm) j (by rw [ofL_size]; exact hlt)
      rw [ofL_list] at hda
      generalize (ofL nm)[j]'(by rw [ofL_size]; exact hlt) = c at hbt hda
      rw [hda, tw] at ht
      by_cases hc : c = 46
      · rw [if_pos hc, List.append_nil] at ht
        refine Ev.step (fun k => ?_) hb
        simp only [racewayref26_Numbered.l1]
        rw [hr, hsz, hbt, hc, if_pos (by omega), if_pos (by rw [List.length_map]; omega), if_pos (by omega), if_pos (by omega), if_pos (by decide), if_pos (by omega), Int.toNat_natCast, ext_list, List.drop_zero, Nat.sub_zero, ofL_list, ← ht]
        rfl
      · rw [if_neg hc] at ht
        have hne : ¬ ((c.toNat : Int) = 46) := fun e => hc (UInt8.toNat_inj.1 (by show _ = 46; omega))
        have ht2 : tw 46 nm = nm.take (j + 1) ++ tw 46 (nm.drop (j + 1)) := by
          rw [ht, List.take_succ_eq_append_getElem hlt, List.append_assoc]
          congr 1
          have hh := congrArg List.head? hda
          rw [List.head?_drop, List.head?_cons, List.getElem?_eq_getElem hlt] at hh
          rw [Option.some.inj hh]; rfl
        refine Ev.step (fun k => ?_) (ih (j + 1) (by omega) (by omega) ht2)
        simp only [racewayref26_Numbered.l1]
        rw [hr, hsz, hbt, w1, if_pos (by omega), if_pos (by rw [List.length_map]; omega), if_pos (by omega), if_pos (by omega), if_neg hne]
    · exact fin j (by omega) h2 ht
include hu hn
theorem l0_ev : ∀ (d i : Nat) (ins : List Bool) (ks : List Int), u.length - i ≤ d → i ≤ u.length → Marks ins ks → Ev (fun k => racewayref26_Numbered.l0 k (u.map toS) ins (i : Int)) (numR (numGo ((u.drop i).map toS) ks)) := by
  have fin : ∀ (i : Nat) (ins : List Bool) (ks : List Int), u.length ≤ i → Marks ins ks → Ev (fun k => racewayref26_Numbered.l0 k (u.map toS) ins (i : Int)) (numR (numGo ((u.drop i).map toS) ks)) := by
    intro i ins ks h1 hM
    rw [List.drop_eq_nil_of_le h1, List.map_nil, numGo]
    refine Ev.step (fun k => ?_) (l2_ev ins ks hM 1000 0 (by omega) (by omega))
    simp only [racewayref26_Numbered.l0]
    rw [if_neg (by rw [List.length_map]; omega)]; rfl
  intro d
  induction d with
  | zero => intro i ins ks h1 h2 hM; exact fin i ins ks (by omega) hM
  | succ d ih =>
    intro i ins ks h1 h2 hM
    by_cases hlt : i < u.length
    · have hp := hn _ (List.getElem_mem hlt)
      rw [List.drop_eq_getElem_cons hlt, List.map_cons, numGo_dv]
      have hl := tw_le 46 (u[i]'hlt).1
      obtain ⟨r, hr, hd⟩ := refAtoi (tw 46 (u[i]'hlt).1) (by omega)
      refine Ev.step (f := fun k => racewayref26_Numbered.l1 k (u.map toS) ins (i : Int) ((0 : Nat) : Int)) (fun k => ?_) (l1_ev u i hlt ins _ (u[i]'hlt).1 rfl hp (Ev.bind hr ?_) _ 0 (Nat.le_refl _) (Nat.zero_le _) (by simp))
      · simp only [racewayref26_Numbered.l0]
        rw [if_pos (by rw [List.length_map]; omega)]; rfl
      · unfold dvAt
        cases hv : dv (tw 46 (u[i]'hlt).1) with
        | none =>
          rw [hv] at hd
          refine Ev.congr (f := fun _ => some (([] : List Int), (5 : Int))) (fun k => ?_) (Ev.now _)
          unfold nbody
          by_cases c1 : r.2 = 0
          · rw [if_pos c1]
            by_cases c2 : r.1 < 1
            · rw [if_pos c2]
            · rw [if_neg c2]
              by_cases c3 : r.1 > 1000
              · rw [if_pos c3]
              · rcases hd with h | h | h
                · exact absurd c1 h
                · exact absurd h c2
                · exact absurd h c3
          · rw [if_neg c1]
        | some n =>
          rw [hv] at hd
          obtain ⟨rfl, hn1, hn2⟩ := hd
          have w1 : wrap64 ((i : Int) + 1) = ((i + 1 : Nat) : Int) := by rw [wrapN (by omega) (by omega)]; omega
          have hlen := hM.len
          refine Ev.congr (fun k => ?_) (ih (i + 1) (ins.set n true) (ks ++ [(n : Int)]) (by omega) (by omega) (hM.put n hn1 hn2))
          unfold nbody
          dsimp only
          rw [if_pos rfl, if_neg (by omega), if_neg (by omega), if_pos (by omega), if_pos (by omega), w1, Int.toNat_natCast]
    · exact fin i ins ks (by omega) hM
end
theorem numbered_R (u : List Pr) : numbered (u.map toS) = numR (numGo (u.map toS) []) := by unfold numbered numR; rfl
theorem rnum_ev (q : L8) (hq : q.length ≤ 50) (m : List Pr) (hm : shortP m) : Ev (fun k => racewayref26_Numbered.f k (m.map toS) (ofL q)) (numbered ((under q m).map toS)) := by
  have hlen := under_len q m
  have hsh := under_short q m (fun p hp => (hm.2 p hp).1)
  have h := l0_ev (under q m) (by have := hm.1; omega) hsh (under q m).length 0 _ [] (by omega) (by omega) Marks.start
  rw [List.drop_zero, ← numbered_R] at h
  refine Ev.bind (runder_ev q hq m hm.1) (Ev.congr (fun k => ?_) h)
  exact if_pos (by decide)
theorem num_of {k : Nat} {l u : List S45} {a : ByteArray} (hk : urlform_Under.f k l a = some u) (hg : u.length ≤ 1000000 ∧ (∀ x ∈ u, x.f0.size ≤ 1000000)) : urlform_Numbered.f k l a = some (numbered u) := by
  unfold urlform_Numbered.f
  rw [hk]
  exact if_pos hg
theorem num_ev (q : L8) (hq : q.length ≤ 50) (m : List Pr) (hm : shortP m) : Ev (fun k => urlform_Numbered.f k (m.map toS) (ofL q)) (numbered ((under q m).map toS)) := by
  have hlen := under_len q m
  have hsh := under_short q m (fun p hp => (hm.2 p hp).1)
  have hml := hm.1
  have hg : ((under q m).map toS).length ≤ 1000000 ∧ (∀ x ∈ (under q m).map toS, x.f0.size ≤ 1000000) := by
    refine ⟨by rw [List.length_map]; omega, fun x hx => ?_⟩
    obtain ⟨p, hp, rfl⟩ := List.mem_map.1 hx
    have := hsh p hp
    rw [show (toS p).f0 = ofL p.1 from rfl, ofL_size]; omega
  obtain ⟨K, hK⟩ := under_ev q hq m hm.1
  refine ⟨K, fun k hk => ?_⟩
  exact num_of (hK k hk) hg
theorem numsOf_len (ks : List Int) : (numsOf ks).length ≤ 1000 := by
  unfold numsOf
  exact Nat.le_trans (List.length_filter_le _ _) (by simp)
theorem numbered_len (u : List S45) : (numbered u).1.length ≤ 1000 := by
  unfold numbered
  cases numGo u [] with
  | none => exact Nat.zero_le _
  | some ks => dsimp only; exact numsOf_len ks
theorem sameNums_ev (xs : List Int) (hx : xs.length ≤ 1000) : Ev (fun k => racewayref01_SameNums.f k xs xs) true := by
  have loop : ∀ (d i : Nat), xs.length - i ≤ d → i ≤ xs.length → Ev (fun k => racewayref01_SameNums.l0 k xs xs (i : Int)) true := by
    intro d
    have fin : ∀ i : Nat, xs.length ≤ i → Ev (fun k => racewayref01_SameNums.l0 k xs xs (i : Int)) true := fun i h => Ev.step (f := fun _ => some true) (fun k => by simp only [racewayref01_SameNums.l0]; rw [if_neg (by omega)]) (Ev.now _)
    induction d with
    | zero => intro i h1 h2; exact fin i (by omega)
    | succ d ih =>
      intro i h1 h2
      by_cases hlt : i < xs.length
      · have w1 : wrap64 ((i : Int) + 1) = ((i + 1 : Nat) : Int) := by rw [wrapN (by omega) (by omega)]; omega
        refine Ev.step (fun k => ?_) (ih (i + 1) (by omega) (by omega))
        simp only [racewayref01_SameNums.l0]
        rw [w1, if_pos (by omega), if_pos (by omega), if_pos (by omega), if_pos trivial]
      · exact fin i (by omega)
  refine Ev.congr (fun k => ?_) (loop xs.length 0 (by omega) (by omega))
  unfold racewayref01_SameNums.f
  rw [if_pos rfl]; rfl
end Go.Proofs.YtjampnopogdceaaDoor.P
