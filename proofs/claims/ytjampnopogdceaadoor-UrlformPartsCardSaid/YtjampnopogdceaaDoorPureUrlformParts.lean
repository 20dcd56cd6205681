/- The plain law UrlformParts: two forms with & between have the pairs of the one, and then those of the other one. No conditions. -/
import Derived.Test.YtjampnopogdceaaDoorStmUrlformParts
import Derived.Test.YtjampnopogdceaaDoorPSame26
namespace Go.Proofs.YtjampnopogdceaaDoor.Pure
open Go.RowKit Go.Lib Go.Proofs.YtjampnopogdceaaDoor.P Go.Proofs.YtjampnopogdceaaDoorW.PrintWords Go.Proofs.YtjampnopogdceaaDoorW.PrintLast

theorem j0_true (k : Nat) (hk : 11 ≤ k) (x0 x1 : ByteArray) (x5 x8 : List S45) : racewaylaw26_UrlformParts.j0 k x0 x1 x5 x8 true = some true := by
  obtain ⟨k, rfl⟩ : ∃ m, k = m + 1 := ⟨k - 1, by omega⟩
  simp only [racewaylaw26_UrlformParts.j0]
  rw [if_pos trivial, worksAt (by omega)]; rfl
theorem UrlformParts : racewaylaw26_UrlformParts.Pure := by
  intro a0 a1 h0 h1
  obtain ⟨K, hK⟩ : ∃ K : Nat, 5000 ≤ K := ⟨5000, Nat.le_refl _⟩
  refine ⟨K, ?_⟩
  obtain ⟨a, ea, la, _⟩ := cutTo a0 2000
  obtain ⟨b, eb, lb, _⟩ := cutTo a1 2000
  unfold racewaylaw26_UrlformParts.f
  rw [show ((2000 : Nat) : Int) = 2000 from rfl] at ea eb
  have m0 := mn_ok a0 2000
  have m1 := mn_ok a1 2000
  rw [show ((2000 : Nat) : Int) = 2000 from rfl] at m0 m1
  rw [if_pos m0.1, if_pos m0.2, if_pos m1.1, if_pos m1.2, ea, eb, parseF, parseF]
  simp only [Option.bind_some]
  by_cases e1 : (parse a).2.2 = 0
  · rw [if_pos (by rw [e1]; rfl)]
    by_cases e2 : (parse b).2.2 = 0
    · rw [if_pos (by rw [e2]; rfl), Lib.toList_data, Lib.toList_data, ofL_list, ofL_list]
      by_cases n1 : a = []
      · rw [if_pos n1]; exact j0_true _ (by omega) _ _ _ _
      · rw [if_neg n1]
        by_cases n2 : b = []
        · rw [if_pos n2]; exact j0_true _ (by omega) _ _ _ _
        · rw [if_neg n2]
          have l1 := parse_len a e1
          have l2 := parse_len b e2
          have hw : wrap64 ((((parse a).1.map toS).length : Int) + (((parse b).1.map toS).length : Int)) = (((parse a).1.length + (parse b).1.length : Nat) : Int) := by
            rw [List.length_map, List.length_map]; unfold wrap64; omega
          rw [hw]
          clear hw
          cases hd : decide ((((parse a).1.length + (parse b).1.length : Nat) : Int) > 1024) with
          | true => exact j0_true _ (by omega) _ _ _ _
          | false =>
            have hs := of_decide_eq_false hd
            have hp := parse_parts a b _ _ n1 n2 la lb (parse_zero a e1) (parse_zero b e2) (by omega)
            obtain ⟨K, rfl⟩ : ∃ m, K = m + 1 := ⟨K - 1, by omega⟩
            simp only [racewaylaw26_UrlformParts.j0]
            have x1 : ofL a ++ (⟨#[38]⟩ : ByteArray) = ofL (a ++ [38]) := ofL_app a [38]
            have x2 : ofL (a ++ [38]) ++ ofL b = ofL (a ++ 38 :: b) := by rw [ofL_app, List.append_assoc]; rfl
            rw [if_neg (by decide), if_pos (by rw [ofL_size]; omega), x1, if_pos (by rw [ofL_size, ofL_size, List.length_append, List.length_singleton]; omega), x2, parseF, hp]
            simp only [Option.bind_some]
            rw [if_pos (by rfl), if_pos (by rw [List.length_map, List.length_map]; omega), ← List.map_append, same_self _ (by rw [List.length_map, List.length_append]; omega) (by rw [List.length_map, List.length_append]; omega)]
            simp only [Option.bind_some]
            rw [if_pos trivial, worksAt (by omega)]; rfl
    · rw [if_neg (by omega)]; exact j0_true _ (by omega) _ _ _ _
  · rw [if_neg (by omega)]; exact j0_true _ (by omega) _ _ _ _

end Go.Proofs.YtjampnopogdceaaDoor.Pure
