/- Plain words for the laws: texts as lists, lists alike, the example at any rounds. No conditions. -/
import Derived.Test.YtjampnopogdceaaDoorPWorks26
import Derived.Test.YtjampnopogdceaaDoorP6
namespace Go.Proofs.YtjampnopogdceaaDoor.P
open Go.RowKit Go.Lib Go.Proofs.YtjampnopogdceaaDoorW.PrintWords Go.Proofs.YtjampnopogdceaaDoorW.PrintLast

theorem worksAt {k : Nat} (h : 10 ≤ k) : racewaylaw26_works.f k = some true := at_rounds racewaylaw26_works.mono h works_k
theorem ofL_app (a b : L8) : ofL a ++ ofL b = ofL (a ++ b) := by
  apply ByteArray.ext
  rw [ByteArray.data_append]
  simp [ofL]
theorem ofL_size (a : L8) : (ofL a).size = a.length := by rw [← size_list, ofL_list]
theorem ofL_of (s : ByteArray) : ofL s.data.toList = s := Lib.mk_data s
theorem parseF (l : L8) : urlform_Parse.f (ofL l) = some ((parse l).1.map toS, ((parse l).2.1 : Int), ((parse l).2.2 : Int)) := by
  unfold urlform_Parse.f; rw [ofL_list]
theorem same_loop (l : List S45) (hl : l.length ≤ 100000) : ∀ (d i k : Nat), i + d = l.length → d + 1 ≤ k → racewayref26_Same.l0 k l l (i : Int) = some true := by
  intro d
  induction d with
  | zero =>
    intro i k hi hk
    obtain ⟨k, rfl⟩ : ∃ m, k = m + 1 := ⟨k - 1, by omega⟩
    simp only [racewayref26_Same.l0]
    rw [if_neg (by omega)]
  | succ d ih =>
    intro i k hi hk
    obtain ⟨k, rfl⟩ : ∃ m, k = m + 1 := ⟨k - 1, by omega⟩
    have hw : wrap64 ((i : Int) + 1) = ((i + 1 : Nat) : Int) := by unfold wrap64; omega
    simp only [racewayref26_Same.l0]
    rw [if_pos (by omega), if_pos (by omega), if_pos (by omega), if_neg (by simp), hw]
    exact ih (i + 1) k (by omega) (by omega)
theorem same_self (l : List S45) (hl : l.length ≤ 100000) {k : Nat} (hk : l.length + 1 ≤ k) : racewayref26_Same.f k l l = some true := by
  unfold racewayref26_Same.f
  rw [if_pos rfl]
  exact same_loop l hl l.length 0 k (by omega) hk
/-- the text cut at most to n bytes -/
theorem cutTo (s : ByteArray) (n : Nat) : ∃ a : L8, s.extract 0 ((mn (s.size : Int) n : Int)).toNat = ofL a ∧ a.length ≤ n ∧ a = s.data.toList.take n := by
  refine ⟨s.data.toList.take n, ?_, by rw [List.length_take]; omega, rfl⟩
  have e : ((mn (s.size : Int) n : Int)).toNat = min s.size n := by unfold mn; omega
  rw [e, ← ofL_of (s.extract 0 (min s.size n)), Lib.extract_from_zero]
  congr 1
  rw [← size_list s, Nat.min_comm]
  rw [List.take_eq_take_iff]; omega
theorem mn_ok (s : ByteArray) (n : Nat) : 0 ≤ mn (s.size : Int) n ∧ mn (s.size : Int) n ≤ (s.size : Int) := by unfold mn; omega
theorem parse_zero (l : L8) (h : (parse l).2.2 = 0) : parse l = ((parse l).1, 0, 0) := by
  have h2 : (parse l).2.1 = 0 := by
    revert h
    unfold parse
    split
    · intro _; rfl
    · split
      · intro _; rfl
      · exact parseGo_zero _ _ _
  exact Prod.ext rfl (Prod.ext h2 h)
theorem parse_len (l : L8) (h : (parse l).2.2 = 0) : (parse l).1.length ≤ 1024 := by
  by_cases h0 : 65536 < l.length
  · unfold parse; rw [if_pos h0]; simp
  · by_cases h1 : l = []
    · subst h1; simp [parse]
    · exact ((parse_ok (by omega) h1).1 (parse_zero l h)).2
end Go.Proofs.YtjampnopogdceaaDoor.P
