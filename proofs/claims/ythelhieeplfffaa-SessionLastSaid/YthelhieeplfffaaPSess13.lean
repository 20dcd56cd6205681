/- The plain law: a reply cut down to few rows; a reply is like itself. No program in sight. -/
import Derived.Test.YthelhieeplfffaaP4
import Derived.Test.YthelhieeplfffaaP8
namespace Go.Proofs.Ythelhieeplfffaa.P
open Go.RowKit Go.Proofs.YthelhieeplfffaaW.PrintWords Go.Proofs.YthelhieeplfffaaW.PrintLast Go.Proofs.YthelhieeplfffaaW.PrintMore
set_option linter.unusedVariables false

theorem w64_small {i : Int} (h0 : 0 ≤ i) (h1 : i < 9223372036854775808) : wrap64 i = i := by
  unfold wrap64
  omega
theorem mn_ok (n k : Int) (hn : 0 ≤ n) (hk : 0 ≤ k) : 0 ≤ mn n k ∧ mn n k ≤ n ∧ mn n k ≤ k := by unfold mn; split <;> omega
theorem few_l1 (e s n : Int) (got : List S56) (data : List ByteArray) (about : List S76) (d : Nat) : ∀ (i : Nat) (X : List ByteArray), i + d = min 5 data.length → X.length ≤ i →
    ∃ r, Ev (fun k => racewaylaw13_few.l1 k X (i : Int) e s n got data about) (e, s, n, got, r, about.take 10) ∧ r.length ≤ 5 := by
  have h10 := mn_ok (about.length : Int) 10 (by omega) (by omega)
  have ht : about.take (mn (about.length : Int) 10).toNat = about.take 10 := by
    unfold mn
    split
    · rfl
    · rw [Int.toNat_natCast, List.take_length, List.take_of_length_le (by omega)]
  induction d with
  | zero =>
    intro i X hi hX
    refine ⟨X, Ev.step (f := fun _ => some (e, s, n, got, X, about.take 10)) (fun k => ?_) (Ev.now _), by omega⟩
    simp only [racewaylaw13_few.l1, Option.bind_some, if_pos h10.1, if_pos h10.2.1, ht, List.nil_append]
    have hl : ([] : List S76).length + (about.take 10).length < 8796093022208 := by rw [List.length_take]; simp; omega
    simp only [if_pos hl]
    split
    · rw [if_neg (by omega)]
    · rfl
  | succ d ih =>
    intro i X hi hX
    have hz := mn_ok ((rdOf ByteArray.empty data (i : Int)).size : Int) 100 (by omega) (by omega)
    obtain ⟨r, h1, h2⟩ := ih (i + 1) (X ++ [(rdOf ByteArray.empty data (i : Int)).extract 0 (mn ((rdOf ByteArray.empty data (i : Int)).size : Int) 100).toNat]) (by omega) (by simp; omega)
    refine ⟨r, Ev.step (fun k => ?_) h1, h2⟩
    simp only [racewaylaw13_few.l1]
    rw [if_pos (by omega), if_pos (by omega), if_pos (by omega), if_pos hz.1, if_pos hz.2.1, if_pos (by omega), w64_small (by omega) (by omega)]
    rfl
theorem few_l0 (e s n : Int) (got : List S56) (data : List ByteArray) (about : List S76) (d : Nat) : ∀ (i : Nat) (X : List S56), i + d = min 12 got.length → X.length ≤ i →
    ∃ r q, Ev (fun k => racewaylaw13_few.l0 k X (i : Int) e s n got data about) (e, s, n, r, q, about.take 10) ∧ r.length ≤ 12 ∧ q.length ≤ 5 := by
  induction d with
  | zero =>
    intro i X hi hX
    obtain ⟨q, h1, h2⟩ := few_l1 e s n X data about (min 5 data.length) 0 [] (by omega) (by simp)
    have h3 : Ev (fun k => racewaylaw13_few.j1 k X e s n got data about) (e, s, n, X, q, about.take 10) := Ev.step (fun k => by simp only [racewaylaw13_few.j1]; rfl) h1
    refine ⟨X, q, Ev.step (fun k => ?_) h3, by omega, h2⟩
    simp only [racewaylaw13_few.l0]
    split
    · rw [if_neg (by omega)]
    · rfl
  | succ d ih =>
    intro i X hi hX
    have hz := mn_ok ((rd_T56 got (i : Int)).f1.size : Int) 150 (by omega) (by omega)
    have hy := mn_ok ((rd_T56 got (i : Int)).f0.f1.size : Int) 40 (by omega) (by omega)
    obtain ⟨r, q, h1, h2⟩ := ih (i + 1) (X ++ [(⟨(⟨(rd_T56 got (i : Int)).f0.f0, ((rd_T56 got (i : Int)).f0.f1).extract 0 ((mn (((rd_T56 got (i : Int)).f0.f1).size : Int) 40) : Int).toNat, (rd_T56 got (i : Int)).f0.f2, (rd_T56 got (i : Int)).f0.f3⟩ : S54), ((rd_T56 got (i : Int)).f1).extract 0 ((mn (((rd_T56 got (i : Int)).f1).size : Int) 150) : Int).toNat, (rd_T56 got (i : Int)).f2⟩ : S56)]) (by omega) (by simp; omega)
    refine ⟨r, q, Ev.step (fun k => ?_) h1, h2⟩
    simp only [racewaylaw13_few.l0]
    rw [if_pos (by omega), if_pos (by omega), if_pos (by omega), if_pos hz.1, if_pos hz.2.1, if_pos hy.1, if_pos hy.2.1, if_pos (by omega), w64_small (by omega) (by omega)]
    rfl
theorem few_ev (e s n : Int) (got : List S56) (data : List ByteArray) (about : List S76) :
    ∃ r q, Ev (fun k => racewaylaw13_few.f k e s n got data about) (e, s, n, r, q, about.take 10) ∧ r.length ≤ 12 ∧ q.length ≤ 5 :=
  few_l0 e s n got data about (min 12 got.length) 0 [] (by omega) (by simp)
theorem texts_self (l : List ByteArray) (h : l.length < 1000) (d : Nat) : ∀ (i : Nat), i + d = l.length → Ev (fun k => racewayref01_SameTexts.l0 k l l (i : Int)) true := by
  induction d with
  | zero =>
    intro i hi
    refine Ev.step (f := fun _ => some true) (fun k => ?_) (Ev.now _)
    simp only [racewayref01_SameTexts.l0]
    rw [if_neg (by omega)]
  | succ d ih =>
    intro i hi
    refine Ev.step (fun k => ?_) (ih (i + 1) (by omega))
    simp only [racewayref01_SameTexts.l0]
    rw [if_pos (by omega), if_pos (by omega)]
    simp
    rw [w64_small (by omega) (by omega), if_pos (by omega)]
theorem ranges_self (l : List S76) (h : l.length < 1000) (d : Nat) : ∀ (i : Nat), i + d = l.length → Ev (fun k => racewayref04_Same.l0 k l l (i : Int)) true := by
  induction d with
  | zero =>
    intro i hi
    refine Ev.step (f := fun _ => some true) (fun k => ?_) (Ev.now _)
    simp only [racewayref04_Same.l0]
    rw [if_neg (by omega)]
  | succ d ih =>
    intro i hi
    refine Ev.step (fun k => ?_) (ih (i + 1) (by omega))
    simp only [racewayref04_Same.l0]
    rw [if_pos (by omega), if_pos (by omega)]
    simp
    rw [w64_small (by omega) (by omega), if_pos (by omega)]
theorem gots_self (e s n : Int) (l : List S56) (t : List ByteArray) (a : List S76) (h : l.length < 1000) (d : Nat) : ∀ (i : Nat), i + d = l.length → Ev (fun k => racewayref05_SameReply.l0 k (i : Int) e s n l t a e s n l t a) true := by
  induction d with
  | zero =>
    intro i hi
    refine Ev.step (f := fun _ => some true) (fun k => ?_) (Ev.now _)
    simp only [racewayref05_SameReply.l0]
    rw [if_neg (by omega)]
  | succ d ih =>
    intro i hi
    refine Ev.step (fun k => ?_) (ih (i + 1) (by omega))
    simp only [racewayref05_SameReply.l0]
    rw [if_pos (by omega), if_pos (by omega)]
    simp
    rw [w64_small (by omega) (by omega), if_pos (by omega)]
theorem reply_self (e s n : Int) (l : List S56) (t : List ByteArray) (a : List S76) (h1 : l.length < 1000) (h2 : t.length < 1000) (h3 : a.length < 1000) : Ev (fun k => racewayref05_SameReply.f k e s n l t a e s n l t a) true := by
  unfold racewayref05_SameReply.f
  simp only [if_true]
  have t1 : Ev (fun k => racewayref01_SameTexts.f k t t) true := by
    unfold racewayref01_SameTexts.f
    simp only [if_true]
    exact texts_self t h2 t.length 0 (by omega)
  have a1 : Ev (fun k => racewayref04_Same.f k a a) true := by
    unfold racewayref04_Same.f
    simp only [if_true]
    exact ranges_self a h3 a.length 0 (by omega)
  refine Ev.bind t1 ?_
  simp only [if_true]
  refine Ev.bind a1 (Ev.step (fun k => ?_) (gots_self e s n l t a h1 l.length 0 (by omega)))
  simp only [racewayref05_SameReply.j0]
  rw [if_neg (by decide)]
  rfl
end Go.Proofs.Ythelhieeplfffaa.P
