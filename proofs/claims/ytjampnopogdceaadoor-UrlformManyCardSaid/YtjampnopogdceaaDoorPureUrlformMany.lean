/- The plain law UrlformMany: a form of n pairs 'a=' has n pairs up to 1024; the next one is told at its place. No conditions. -/
import Derived.Test.YtjampnopogdceaaDoorStmUrlformMany
import Derived.Test.YtjampnopogdceaaDoorPWorks26
namespace Go.Proofs.YtjampnopogdceaaDoor.Pure
open Go.RowKit Go.Lib Go.Proofs.YtjampnopogdceaaDoor.P Go.Proofs.YtjampnopogdceaaDoorW.PrintWords Go.Proofs.YtjampnopogdceaaDoorW.PrintLast

theorem works_at {k : Nat} (h : 10 ≤ k) : racewaylaw26_works.f k = some true := at_rounds racewaylaw26_works.mono h works_k
theorem app_ofL (a b : L8) : ofL a ++ ofL b = ofL (a ++ b) := by
  apply ByteArray.ext
  rw [ByteArray.data_append]
  simp [ofL]
theorem size_ofL (a : L8) : (ofL a).size = a.length := by rw [← size_list, ofL_list]
theorem parse_f (l : L8) : urlform_Parse.f (ofL l) = some ((parse l).1.map toS, ((parse l).2.1 : Int), ((parse l).2.2 : Int)) := by
  unfold urlform_Parse.f; rw [ofL_list]
theorem manyL_le (n : Nat) : (manyL n).length ≤ 3 * n := by
  cases n with
  | zero => simp [manyL]
  | succ n => rw [manyL_len]; omega
theorem many_end (n k : Nat) (hn : 1020 ≤ n ∧ n < 1029) (hk : 11 ≤ k) : racewaylaw26_UrlformMany.l0 k (n : Int) (ofL (manyL n)) (n : Int) (n : Int) = some true := by
  obtain ⟨k, rfl⟩ : ∃ m, k = m + 1 := ⟨k - 1, by omega⟩
  simp only [racewaylaw26_UrlformMany.l0]
  rw [if_neg (by omega), parse_f]
  obtain ⟨m, rfl⟩ : ∃ m, n = m + 1 := ⟨n - 1, by omega⟩
  rw [parse_many m (by omega)]
  by_cases h : m + 1 ≤ 1024
  · simp only [Option.bind_some, if_pos h]
    rw [if_neg (by omega), if_pos (by rfl), if_pos (by simp), works_at (by omega)]
    rfl
  · simp only [Option.bind_some, if_neg h]
    rw [if_pos (by omega), if_pos (by rfl), if_pos (by rfl), if_pos (by rfl), works_at (by omega)]
    rfl
theorem many_loop (n : Nat) (hn : 1020 ≤ n ∧ n < 1029) : ∀ (d i k : Nat), i + d = n → d + 11 ≤ k → racewaylaw26_UrlformMany.l0 k (n : Int) (ofL (manyL i)) (n : Int) (i : Int) = some true := by
  intro d
  induction d with
  | zero =>
    intro i k hi hk
    obtain rfl : i = n := by omega
    exact many_end i k hn (by omega)
  | succ d ih =>
    intro i k hi hk
    obtain ⟨k, rfl⟩ : ∃ m, k = m + 1 := ⟨k - 1, by omega⟩
    have hw : wrap64 ((i : Int) + 1) = ((i + 1 : Nat) : Int) := by unfold wrap64; omega
    have hl := manyL_le i
    simp only [racewaylaw26_UrlformMany.l0]
    rw [if_pos (by omega), hw]
    cases i with
    | zero =>
      rw [if_neg (by simp), if_pos (by rw [size_ofL]; simp [manyL])]
      have e : ofL (manyL 0) ++ (⟨#[97, 61]⟩ : ByteArray) = ofL (manyL 1) := app_ofL [] [97, 61]
      rw [e]
      exact ih 1 k (by omega) (by omega)
    | succ i =>
      have e1 : ofL (manyL (i + 1)) ++ (⟨#[38]⟩ : ByteArray) = ofL (manyL (i + 1) ++ [38]) := app_ofL _ [38]
      have e2 : ofL (manyL (i + 1) ++ [38]) ++ (⟨#[97, 61]⟩ : ByteArray) = ofL (manyL (i + 2)) := by
        have := app_ofL (manyL (i + 1) ++ [38]) [97, 61]
        rw [List.append_assoc] at this
        exact this
      rw [if_pos (by omega), if_pos (by rw [size_ofL]; omega), e1, if_pos (by rw [size_ofL, List.length_append, List.length_singleton]; omega), e2]
      exact ih (i + 2) k (by omega) (by omega)
theorem UrlformMany : racewaylaw26_UrlformMany.Pure := by
  intro a0 h
  have h1 := Int.tmod_lt_of_pos a0 (show (0 : Int) < 9 by decide)
  have h2 := Int.lt_tmod_of_pos a0 (show (0 : Int) < 9 by decide)
  have e1 : wrap64 ((Int.tmod a0 9) + 9) = (Int.tmod a0 9) + 9 := by unfold wrap64; omega
  have h3 := Int.tmod_lt_of_pos ((Int.tmod a0 9) + 9) (show (0 : Int) < 9 by decide)
  have h4 := Int.tmod_nonneg 9 (a := (Int.tmod a0 9) + 9) (by omega)
  have e2 : wrap64 (1020 + (Int.tmod ((Int.tmod a0 9) + 9) 9)) = 1020 + (Int.tmod ((Int.tmod a0 9) + 9) 9) := by unfold wrap64; omega
  obtain ⟨n, hn⟩ : ∃ n : Nat, 1020 + (Int.tmod ((Int.tmod a0 9) + 9) 9) = (n : Int) := ⟨(1020 + (Int.tmod ((Int.tmod a0 9) + 9) 9)).toNat, by omega⟩
  refine ⟨n + 11, ?_⟩
  unfold racewaylaw26_UrlformMany.f
  rw [e1, e2, hn]
  exact many_loop n (by omega) n 0 (n + 11) (by omega) (Nat.le_refl _)

end Go.Proofs.YtjampnopogdceaaDoor.Pure
