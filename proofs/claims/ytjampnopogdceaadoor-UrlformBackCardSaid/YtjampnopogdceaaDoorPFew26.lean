/- few, Print and the document's Print, as the print has them, in plain words. No conditions. -/
import Derived.Test.YtjampnopogdceaaDoorP9
import Derived.Test.YtjampnopogdceaaDoorP18
import Derived.Test.YtjampnopogdceaaDoorP19
import Derived.Test.YtjampnopogdceaaDoorPSame26
import Derived.Test.YtjampnopogdceaaDoorPUn26
namespace Go.Proofs.YtjampnopogdceaaDoor.P
open Go.RowKit Go.Lib Go.Proofs.YtjampnopogdceaaDoorW.PrintWords Go.Proofs.YtjampnopogdceaaDoorW.PrintLast

def shortP (m : List Pr) : Prop := m.length ≤ 1030 ∧ ∀ p ∈ m, p.1.length ≤ 100 ∧ p.2.length ≤ 100
theorem rdS (l : List S45) (i : Nat) (h : i < l.length) : rd_T45 l (i : Int) = l[i]'h := by unfold rd_T45; simp [h]
theorem few_loop (l : List S45) : ∀ (d i : Nat) (m : List Pr), min l.length 1030 - i ≤ d → i ≤ min l.length 1030 → m.length = i → (∀ p ∈ m, p.1.length ≤ 100 ∧ p.2.length ≤ 100) →
    ∃ m', shortP m' ∧ Ev (fun k => racewaylaw26_few.l0 k l (m.map toS) (i : Int)) (m'.map toS) := by
  intro d
  induction d with
  | zero =>
    intro i m h1 h2 h3 h4
    refine ⟨m, ⟨by omega, h4⟩, Ev.step (f := fun _ => some (m.map toS)) (fun k => ?_) (Ev.now _)⟩
    simp only [racewaylaw26_few.l0]
    by_cases hl : i < l.length
    · rw [if_pos (by omega), if_neg (by omega)]
    · rw [if_neg (by omega)]
  | succ d ih =>
    intro i m h1 h2 h3 h4
    by_cases hlt : i < min l.length 1030
    · have hi : i < l.length := by omega
      obtain ⟨a, ea, la, _⟩ := cutTo (l[i]'hi).f0 100
      obtain ⟨b, eb, lb, _⟩ := cutTo (l[i]'hi).f1 100
      have m0 := mn_ok (l[i]'hi).f0 100
      have m1 := mn_ok (l[i]'hi).f1 100
      rw [show ((100 : Nat) : Int) = 100 from rfl] at ea eb m0 m1
      obtain ⟨m', hm, hev⟩ := ih (i + 1) (m ++ [(a, b)]) (by omega) (by omega) (by simp; omega) (fun p hp => by
        rcases List.mem_append.1 hp with hp | hp
        · exact h4 p hp
        · rw [List.mem_singleton.1 hp]; exact ⟨la, lb⟩)
      refine ⟨m', hm, Ev.step (f := fun k => racewaylaw26_few.l0 k l ((m ++ [(a, b)]).map toS) ((i + 1 : Nat) : Int)) (fun k => ?_) hev⟩
      have w1 : wrap64 ((i : Int) + 1) = ((i + 1 : Nat) : Int) := wrapU (by omega) (by omega)
      have e : (m ++ [(a, b)]).map toS = m.map toS ++ [(⟨ofL a, ofL b⟩ : S45)] := by simp [toS]
      simp only [racewaylaw26_few.l0]
      rw [rdS l i hi, w1, e]
      clear w1
      rw [if_pos (by omega), if_pos (by omega), if_pos (by omega), if_pos m0.1, if_pos m0.2, if_pos m1.1, if_pos m1.2, if_pos (by rw [List.length_map]; omega), ea, eb]
    · refine ⟨m, ⟨by omega, h4⟩, Ev.step (f := fun _ => some (m.map toS)) (fun k => ?_) (Ev.now _)⟩
      simp only [racewaylaw26_few.l0]
      by_cases hl : i < l.length
      · rw [if_pos (by omega), if_neg (by omega)]
      · rw [if_neg (by omega)]
theorem few_ev (l : List S45) : ∃ m, shortP m ∧ Ev (fun k => racewaylaw26_few.f k l) (m.map toS) :=
  few_loop l (min l.length 1030) 0 [] (by omega) (by omega) rfl (by simp)

theorem join_snoc (xs : List L8) (y : L8) (h : xs ≠ []) : join (xs ++ [y]) [38] = join xs [38] ++ 38 :: y := by
  cases xs with
  | nil => exact absurd rfl h
  | cons x r =>
    rw [List.cons_append, join_cons, join_cons]
    simp [joinTail]
theorem printL_snoc (m : List Pr) (p : Pr) (h : m ≠ []) : printL (m ++ [p]) = printL m ++ 38 :: printP p := by
  unfold printL
  rw [List.map_append]
  exact join_snoc _ _ (by simpa using h)
theorem printP_len (p : Pr) (h : p.1.length ≤ 100 ∧ p.2.length ≤ 100) : (printP p).length ≤ 601 := by
  unfold printP
  have h1 := esc_le p.1
  have h2 := esc_le p.2
  rw [List.length_append, List.length_cons]; omega
theorem printL_len (m : List Pr) (h : ∀ p ∈ m, p.1.length ≤ 100 ∧ p.2.length ≤ 100) : (printL m).length ≤ 602 * m.length := by
  induction m with
  | nil => simp [printL, join_nil]
  | cons p m ih =>
    have hp := printP_len p (h p (by simp))
    have hm := ih (fun q hq => h q (List.mem_cons_of_mem _ hq))
    cases m with
    | nil =>
      have e : printL [p] = printP p := by unfold printL; rw [List.map_cons, List.map_nil, join_one]
      rw [e, List.length_singleton]; omega
    | cons q m =>
      have e : printL (p :: q :: m) = printP p ++ 38 :: printL (q :: m) := by
        unfold printL
        rw [List.map_cons, List.map_cons, join_cons, join_cons]; simp [joinTail]
      rw [e, List.length_append, List.length_cons]
      simp only [List.length_cons] at hm ⊢
      omega
theorem escF (a : L8) (h : a.length ≤ 100) : urlform_Escape.f (ofL a) = some (ofL (esc a)) := by
  unfold urlform_Escape.f
  rw [if_pos (by rw [ofL_size]; omega), ofL_list]
theorem escR (a : L8) (h : a.length ≤ 100) : racewayref26_Escape.f (ofL a) = some (ofL (esc a)) := by
  unfold racewayref26_Escape.f
  rw [if_pos (by rw [ofL_size]; omega), ofL_list]
def printR (m : List Pr) : ByteArray × Int := if 1024 < m.length then (ofL [], 7) else (ofL (printL m), 0)
theorem print_loop (m : List Pr) (hm : shortP m) : ∀ (d i : Nat), m.length - i ≤ d → i ≤ m.length → Ev (fun k => urlform_Print.l0 k ((m.take i).map (fun p => ofL (printP p))) (m.map toS) (m.length : Int) (i : Int)) (ofL (printL m), 0) := by
  have fin : ∀ i, m.length ≤ i → Ev (fun k => urlform_Print.l0 k ((m.take i).map (fun p => ofL (printP p))) (m.map toS) (m.length : Int) (i : Int)) (ofL (printL m), 0) := by
    intro i h1
    refine Ev.step (f := fun _ => some (ofL (printL m), (0 : Int))) (fun k => ?_) (Ev.now _)
    simp only [urlform_Print.l0]
    have e : (m.map (fun p => ofL (printP p))).map (·.data.toList) = m.map printP := by
      rw [List.map_map]; exact List.map_congr_left (fun p _ => ofL_list _)
    have hl := printL_len m hm.2
    have h30 := hm.1
    rw [if_neg (by omega), List.take_of_length_le h1]
    unfold strings_Join.f
    rw [e, show (⟨#[38]⟩ : ByteArray).data.toList = [38] from rfl, if_pos ⟨by rw [List.length_map]; omega, by show (printL m).length ≤ _; omega⟩]
    rfl
  intro d
  induction d with
  | zero => intro i h1 h2; exact fin i (by omega)
  | succ d ih =>
    intro i h1 h2
    by_cases hlt : i < m.length
    · have w1 : wrap64 ((i : Int) + 1) = ((i + 1 : Nat) : Int) := wrapU (by have := hm.1; omega) (by have := hm.1; omega)
      refine Ev.step (f := fun k => urlform_Print.l0 k ((m.take (i + 1)).map (fun p => ofL (printP p))) (m.map toS) (m.length : Int) ((i + 1 : Nat) : Int)) (fun k => ?_) (ih (i + 1) (by omega) (by omega))
      have hs := hm.2 _ (List.getElem_mem hlt)
      have h30 := hm.1
      have hr : rd_T45 (m.map toS) (i : Int) = toS (m[i]'hlt) := by rw [rdS _ i (by simpa using hlt)]; simp
      have ht : (m.take (i + 1)).map (fun p => ofL (printP p)) = (m.take i).map (fun p => ofL (printP p)) ++ [ofL (printP (m[i]'hlt))] := by
        rw [List.take_succ_eq_append_getElem hlt, List.map_append]; rfl
      have hpl := printP_len _ hs
      simp only [urlform_Print.l0]
      rw [hr, w1, ht]
      clear w1
      generalize m[i]'hlt = p at hs hpl
      have hpe : printP p = esc p.1 ++ 61 :: esc p.2 := rfl
      have he : ofL (esc p.1) ++ (⟨#[61]⟩ : ByteArray) = ofL (esc p.1 ++ [61]) := ofL_app _ [61]
      have he2 : ofL (esc p.1 ++ [61]) ++ ofL (esc p.2) = ofL (printP p) := by rw [ofL_app, List.append_assoc]; rfl
      rw [hpe, List.length_append, List.length_cons] at hpl
      rw [if_pos (by omega), if_pos (by omega), if_pos (by rw [List.length_map]; omega), show (toS p).f0 = ofL p.1 from rfl, show (toS p).f1 = ofL p.2 from rfl, escF _ hs.1]
      simp only [Option.bind_some]
      rw [if_pos (by rw [ofL_size]; omega), escF _ hs.2]
      simp only [Option.bind_some]
      rw [he, if_pos (by rw [ofL_size, ofL_size, List.length_append, List.length_singleton]; omega), if_pos (by rw [List.length_map, List.length_take]; omega), he2]
    · exact fin i (by omega)
theorem print_ev (m : List Pr) (hm : shortP m) : Ev (fun k => urlform_Print.f k (m.map toS)) (printR m) := by
  unfold printR
  by_cases h : 1024 < m.length
  · rw [if_pos h]
    refine Ev.congr (f := fun _ => some (ofL [], (7 : Int))) (fun k => ?_) (Ev.now _)
    unfold urlform_Print.f
    rw [if_pos (by rw [List.length_map]; omega)]; rfl
  · rw [if_neg h]
    refine Ev.congr (f := fun k => urlform_Print.l0 k ((m.take 0).map (fun p => ofL (printP p))) (m.map toS) (m.length : Int) ((0 : Nat) : Int)) (fun k => ?_) (print_loop m hm m.length 0 (by omega) (by omega))
    unfold urlform_Print.f
    rw [if_neg (by rw [List.length_map]; omega), List.length_map, List.take_zero]; rfl
theorem rprint_loop (m : List Pr) (hm : shortP m) : ∀ (d i : Nat), m.length - i ≤ d → i ≤ m.length → Ev (fun k => racewayref26_Print.l0 k (m.map toS) (ofL (printL (m.take i))) (i : Int)) (ofL (printL m), 0) := by
  have fin : ∀ i, m.length ≤ i → Ev (fun k => racewayref26_Print.l0 k (m.map toS) (ofL (printL (m.take i))) (i : Int)) (ofL (printL m), 0) := by
    intro i h1
    refine Ev.step (f := fun _ => some (ofL (printL m), (0 : Int))) (fun k => ?_) (Ev.now _)
    simp only [racewayref26_Print.l0]
    rw [if_neg (by rw [List.length_map]; omega), List.take_of_length_le h1]
  intro d
  induction d with
  | zero => intro i h1 h2; exact fin i (by omega)
  | succ d ih =>
    intro i h1 h2
    by_cases hlt : i < m.length
    · have w1 : wrap64 ((i : Int) + 1) = ((i + 1 : Nat) : Int) := wrapU (by have := hm.1; omega) (by have := hm.1; omega)
      refine Ev.step (f := fun k => racewayref26_Print.l0 k (m.map toS) (ofL (printL (m.take (i + 1)))) ((i + 1 : Nat) : Int)) (fun k => ?_) (ih (i + 1) (by omega) (by omega))
      have hs := hm.2 _ (List.getElem_mem hlt)
      have h30 := hm.1
      have hr : rd_T45 (m.map toS) (i : Int) = toS (m[i]'hlt) := by rw [rdS _ i (by simpa using hlt)]; simp
      have htl := printL_len (m.take i) (fun p hp => hm.2 p (List.mem_of_mem_take hp))
      rw [List.length_take] at htl
      have hpl := printP_len _ hs
      simp only [racewayref26_Print.l0]
      rw [hr, w1, List.take_succ_eq_append_getElem hlt]
      clear w1
      generalize hx : m[i]'hlt = p at hs hpl
      have hpe : printP p = esc p.1 ++ 61 :: esc p.2 := rfl
      rw [hpe, List.length_append, List.length_cons] at hpl
      rw [if_pos (by rw [List.length_map]; omega), show (toS p).f0 = ofL p.1 from rfl, show (toS p).f1 = ofL p.2 from rfl, escR _ hs.1, escR _ hs.2]
      simp only [Option.bind_some]
      by_cases h0 : i = 0
      · subst h0
        rw [List.take_zero, List.nil_append, show printL [p] = printP p by unfold printL; rw [List.map_cons, List.map_nil, join_one], show printL [] = [] from rfl]
        have x1 : ofL [] ++ ofL (esc p.1) = ofL (esc p.1) := by rw [ofL_app]; rfl
        have x2 : ofL (esc p.1) ++ (⟨#[61]⟩ : ByteArray) = ofL (esc p.1 ++ [61]) := ofL_app _ [61]
        have x3 : ofL (esc p.1 ++ [61]) ++ ofL (esc p.2) = ofL (printP p) := by rw [ofL_app, List.append_assoc]; rfl
        rw [if_neg (by omega), if_pos (by omega), if_pos (by rw [ofL_size, ofL_size]; simp; omega), x1, if_pos (by rw [ofL_size]; omega), x2, if_pos (by rw [ofL_size, ofL_size, List.length_append, List.length_singleton]; omega), x3]
      · have hne : m.take i ≠ [] := by intro e; have := congrArg List.length e; rw [List.length_take, List.length_nil] at this; omega
        rw [printL_snoc _ _ hne]
        generalize printL (m.take i) = q at htl
        have x0 : ofL q ++ (⟨#[38]⟩ : ByteArray) = ofL (q ++ [38]) := ofL_app _ [38]
        have x1 : ofL (q ++ [38]) ++ ofL (esc p.1) = ofL (q ++ [38] ++ esc p.1) := ofL_app _ _
        have x2 : ofL (q ++ [38] ++ esc p.1) ++ (⟨#[61]⟩ : ByteArray) = ofL (q ++ [38] ++ esc p.1 ++ [61]) := ofL_app _ [61]
        have x3 : ofL (q ++ [38] ++ esc p.1 ++ [61]) ++ ofL (esc p.2) = ofL (q ++ 38 :: printP p) := by rw [ofL_app, hpe]; simp
        rw [if_pos (by omega), if_pos (by rw [ofL_size]; omega), if_pos (by omega), x0, if_pos (by rw [ofL_size, ofL_size, List.length_append, List.length_singleton]; omega), x1, if_pos (by rw [ofL_size]; simp only [List.length_append, List.length_singleton]; omega), x2, if_pos (by rw [ofL_size, ofL_size]; simp only [List.length_append, List.length_singleton]; omega), x3]
    · exact fin i (by omega)
theorem rprint_ev (m : List Pr) (hm : shortP m) : Ev (fun k => racewayref26_Print.f k (m.map toS)) (printR m) := by
  unfold printR
  by_cases h : 1024 < m.length
  · rw [if_pos h]
    refine Ev.congr (f := fun _ => some (ofL [], (7 : Int))) (fun k => ?_) (Ev.now _)
    unfold racewayref26_Print.f
    rw [if_pos (by rw [List.length_map]; omega)]; rfl
  · rw [if_neg h]
    refine Ev.congr (f := fun k => racewayref26_Print.l0 k (m.map toS) (ofL (printL (m.take 0))) ((0 : Nat) : Int)) (fun k => ?_) (rprint_loop m hm m.length 0 (by omega) (by omega))
    unfold racewayref26_Print.f
    rw [if_neg (by rw [List.length_map]; omega), List.take_zero]; rfl
end Go.Proofs.YtjampnopogdceaaDoor.P
