/- The document's Unescape, as the print has it, is the plain 'un'. No conditions. -/
import Derived.Test.YtjampnopogdceaaDoorP3
namespace Go.Proofs.YtjampnopogdceaaDoor.P
open Go.RowKit Go.Lib Go.Proofs.YtjampnopogdceaaDoorW.PrintWords Go.Proofs.YtjampnopogdceaaDoorW.PrintLast

theorem wrapU {x : Int} (h1 : -9223372036854775808 ≤ x) (h2 : x ≤ 9223372036854775807) : wrap64 x = x := by unfold wrap64; omega
def hexR (c : UInt8) : Int := (racewayref26_hex.f 5 (c.toNat : Int)).getD (-1)
theorem hexR_f (c : UInt8) {k : Nat} (hk : 5 ≤ k) : racewayref26_hex.f k (c.toNat : Int) = some (hexR c) := by
  refine at_rounds (racewayref26_hex.mono _) hk ?_
  exact byteAll (p := fun c => racewayref26_hex.f 5 (c.toNat : Int) = some (hexR c)) (by decide +kernel) c
theorem hexR_neg (c : UInt8) : (hexR c < 0) ↔ ¬ (0 ≤ hexI c) := byteAll (p := fun c => (hexR c < 0) ↔ ¬ (0 ≤ hexI c)) (by decide +kernel) c
theorem hexR_val (c : UInt8) (h : 0 ≤ hexI c) : hexR c = (((hexI c).toNat % 16 : Nat) : Int) :=
  byteAll (p := fun c => 0 ≤ hexI c → hexR c = (((hexI c).toNat % 16 : Nat) : Int)) (by decide +kernel) c h
theorem hexR_two (a b : UInt8) (h1 : 0 ≤ hexI a) (h2 : 0 ≤ hexI b) : wrap64 ((wrap64 (16 * hexR a)) + hexR b) % 256 = ((hexB a b).toNat : Int) := by
  rw [hexR_val a h1, hexR_val b h2]
  unfold hexB
  generalize (hexI a).toNat = x
  generalize (hexI b).toNat = y
  have hx : x % 16 < 16 := Nat.mod_lt _ (by decide)
  have hy : y % 16 < 16 := Nat.mod_lt _ (by decide)
  rw [show wrap64 (16 * ((x % 16 : Nat) : Int)) = 16 * ((x % 16 : Nat) : Int) from wrapU (by omega) (by omega), wrapU (by omega) (by omega)]
  simp
  omega
def nums (acc : L8) : List Int := acc.map (fun c => (c.toNat : Int))
theorem nums_snoc (acc : L8) (c : UInt8) : nums (acc ++ [c]) = nums acc ++ [(c.toNat : Int)] := by simp [nums]
theorem nums_len (acc : L8) : (nums acc).length = acc.length := by simp [nums]
theorem str_nums (acc : L8) : strOfNums (nums acc) = ofL acc := by
  unfold strOfNums nums ofL
  congr 2
  rw [List.map_map]
  conv => rhs; rw [← List.map_id acc]
  apply List.map_congr_left
  intro c _
  simp
theorem bt_nat (s : ByteArray) (i : Nat) (h : i < s.size) : bt s (i : Int) = ((s[i]'h).toNat : Int) := by
  rw [← bt_at s (i : Int) (by simpa using h)]; rfl
theorem itself_f (c : UInt8) : racewayref26_itself.f (c.toNat : Int) = some (decide (0 ≤ indexByte letL c)) := by
  unfold racewayref26_itself.f
  have := c.toNat_lt
  rw [if_pos (by omega), idx_nat]
def unR (s : ByteArray) (i : Nat) (acc : L8) : ByteArray × Int × Int := (ofL (un (s.data.toList.drop i) i acc).1, ((un (s.data.toList.drop i) i acc).2.1 : Int), ((un (s.data.toList.drop i) i acc).2.2 : Int))
theorem refUn (s : ByteArray) (hs : s.size ≤ 100000) : ∀ (d i k : Nat) (acc : L8), s.size - i ≤ d → i ≤ s.size → acc.length ≤ i → 2 * d + 12 ≤ k → racewayref26_Unescape.l0 k s (nums acc) (i : Int) = some (unR s i acc) := by
  intro d
  induction d with
  | zero =>
    intro i k acc h1 h2 h3 hk
    obtain ⟨k, rfl⟩ : ∃ m, k = m + 1 := ⟨k - 1, by omega⟩
    simp only [racewayref26_Unescape.l0]
    unfold unR
    rw [if_neg (by omega), List.drop_eq_nil_of_le (by rw [size_list]; omega), un, str_nums]
    rfl
  | succ d ih =>
    intro i k acc h1 h2 h3 hk
    by_cases hlt : i < s.size
    · obtain ⟨k, rfl⟩ : ∃ m, k = m + 1 := ⟨k - 1, by omega⟩
      have w1 : wrap64 ((i : Int) + 1) = ((i + 1 : Nat) : Int) := wrapU (by omega) (by omega)
      have w2 : wrap64 ((i : Int) + 2) = ((i + 2 : Nat) : Int) := wrapU (by omega) (by omega)
      have w3 : wrap64 ((i : Int) + 3) = ((i + 3 : Nat) : Int) := wrapU (by omega) (by omega)
      simp only [racewayref26_Unescape.l0]
      rw [w1, w2]
      rw [if_pos (by omega), if_pos (by omega), bt_nat s i hlt]
      have hd := drop_at s i hlt
      unfold unR
      rw [hd]
      generalize s[i]'hlt = c at hd
      by_cases h37 : c = 37
      · subst h37
        rw [if_pos (by rfl)]
        obtain ⟨k, rfl⟩ : ∃ m, k = m + 1 := ⟨k - 1, by omega⟩
        by_cases hsh : s.size ≤ i + 2
        · rw [if_pos (by omega), un_short _ _ _ (by rw [List.length_drop, size_list]; omega)]
          simp only [racewayref26_Unescape.j1]
          rw [if_pos trivial]; rfl
        · rw [if_neg (by omega), if_pos (by omega), if_pos (by omega), bt_nat s (i + 1) (by omega), hexR_f _ (by omega), drop_at s (i + 1) (by omega), drop_at s (i + 2) (by omega)]
          simp only [Option.bind_some]
          generalize ha : s[i + 1]'(by omega) = a
          generalize hb : s[i + 2]'(by omega) = b
          by_cases na : hexR a < 0
          · rw [if_pos na, un_hexbad _ _ _ _ _ (fun h => (hexR_neg a).1 na h.1)]
            simp only [racewayref26_Unescape.j1]
            rw [if_pos trivial]; rfl
          · rw [if_neg na, if_pos (by omega), if_pos (by omega), bt_nat s (i + 2) (by omega), hb, hexR_f _ (by omega)]
            simp only [Option.bind_some]
            by_cases nb : hexR b < 0
            · rw [un_hexbad _ _ _ _ _ (fun h => (hexR_neg b).1 nb h.2)]
              simp only [racewayref26_Unescape.j1]
              rw [if_pos (decide_eq_true nb)]; rfl
            · have pa : 0 ≤ hexI a := Classical.byContradiction fun h => na ((hexR_neg a).2 h)
              have pb : 0 ≤ hexI b := Classical.byContradiction fun h => nb ((hexR_neg b).2 h)
              rw [un_hex _ _ _ _ _ pa pb]
              simp only [racewayref26_Unescape.j1]
              rw [if_neg (by simpa using nb), w1, w2, w3, if_pos (by omega), if_pos (by omega), bt_nat s (i + 1) (by omega), ha, hexR_f _ (by omega)]
              simp only [Option.bind_some]
              rw [if_pos (by omega), if_pos (by omega), bt_nat s (i + 2) (by omega), hb, hexR_f _ (by omega)]
              simp only [Option.bind_some]
              rw [if_pos (by rw [nums_len]; omega), hexR_two a b pa pb, ← nums_snoc]
              exact ih (i + 3) k _ (by omega) (by omega) (by simp; omega) (by omega)
      · rw [if_neg (by intro h; exact h37 (UInt8.toNat_inj.1 (by show _ = 37; omega)))]
        by_cases h43 : c = 43
        · subst h43
          rw [if_pos (by rfl), if_pos (by rw [nums_len]; omega), un_plus, show nums acc ++ [(32 : Int)] = nums (acc ++ [32]) from (nums_snoc acc 32).symm]
          exact ih (i + 1) k _ (by omega) (by omega) (by simp; omega) (by omega)
        · rw [if_neg (by intro h; exact h43 (UInt8.toNat_inj.1 (by show _ = 43; omega))), itself_f]
          simp only [Option.bind_some]
          by_cases hl : 0 ≤ indexByte letL c
          · rw [if_pos (decide_eq_true hl), if_pos (by rw [nums_len]; omega), un_let _ _ _ _ h43 h37 hl, ← nums_snoc]
            exact ih (i + 1) k _ (by omega) (by omega) (by simp; omega) (by omega)
          · rw [if_neg (by simpa using hl), un_bad _ _ _ _ h43 h37 hl]; rfl
    · obtain rfl : i = s.size := by omega
      obtain ⟨k, rfl⟩ : ∃ m, k = m + 1 := ⟨k - 1, by omega⟩
      simp only [racewayref26_Unescape.l0]
      unfold unR
      rw [if_neg (by omega), List.drop_eq_nil_of_le (by rw [size_list]; omega), un, str_nums]
      rfl
theorem refUn_f (s : ByteArray) (hs : s.size ≤ 100000) {k : Nat} (hk : 2 * s.size + 12 ≤ k) : racewayref26_Unescape.f k s = some (ofL (un s.data.toList 0 []).1, ((un s.data.toList 0 []).2.1 : Int), ((un s.data.toList 0 []).2.2 : Int)) :=
  refUn s hs s.size 0 k [] (by omega) (by omega) (by simp) hk
end Go.Proofs.YtjampnopogdceaaDoor.P
