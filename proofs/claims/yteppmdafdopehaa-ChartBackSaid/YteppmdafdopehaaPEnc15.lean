/- Numbers as bytes, seven bits each, in plain words: what is read is what was written. No conditions. -/
import Derived.Lib.SplitLaws
namespace Go.Proofs.Yteppmdafdopehaa.P
set_option linter.unusedVariables false

abbrev L8 := List UInt8
def enc (n : Nat) : L8 := if h : n < 128 then [UInt8.ofNat n] else UInt8.ofNat (n % 128 + 128) :: enc (n / 128)
termination_by n
decreasing_by omega
theorem enc_small (n : Nat) (h : n < 128) : enc n = [UInt8.ofNat n] := by rw [enc, dif_pos h]
theorem enc_big (n : Nat) (h : ¬ n < 128) : enc n = UInt8.ofNat (n % 128 + 128) :: enc (n / 128) := by rw [enc, dif_neg h]
theorem enc_len : ∀ (k n : Nat), n < 128 ^ (k + 1) → (enc n).length ≤ k + 1 := by
  intro k
  induction k with
  | zero => intro n h; rw [enc_small n (by simpa using h)]; simp
  | succ k ih =>
    intro n h
    by_cases hs : n < 128
    · rw [enc_small n hs]; simp
    · rw [enc_big n hs, List.length_cons]
      have h2 : n / 128 < 128 ^ (k + 1) := by rw [Nat.pow_succ] at h; omega
      have := ih _ h2
      omega
theorem enc_pos (n : Nat) : 0 < (enc n).length := by
  by_cases h : n < 128
  · rw [enc_small n h]; simp
  · rw [enc_big n h]; simp
theorem u8_small (n : Nat) (h : n < 256) : (UInt8.ofNat n).toNat = n := by simp; omega
def maxNum : Nat := 4611686018427387904
/-- the document's reader -/
def rdGo : L8 → Nat → Nat → Option (Nat × Nat)
  | [], _, _ => none
  | c :: r, i, n =>
    if i = 9 ∨ (0 < i ∧ c.toNat = 0) then none
    else if maxNum < n + c.toNat % 128 * 128 ^ i then none
    else if c.toNat < 128 then some (n + c.toNat % 128 * 128 ^ i, i + 1) else rdGo r (i + 1) (n + c.toNat % 128 * 128 ^ i)
def rd7 (l : L8) : Option (Nat × Nat) := rdGo l 0 0
theorem rdGo_enc : ∀ (f m : Nat), m ≤ f → ∀ (i n : Nat) (rest : L8), (i = 0 ∨ 0 < m) → n + m * 128 ^ i ≤ maxNum → rdGo (enc m ++ rest) i n = some (n + m * 128 ^ i, i + (enc m).length) := by
  have h9 : ∀ (m i : Nat), 0 < m → m * 128 ^ i ≤ maxNum → i < 9 := by
    intro m i h0 h
    refine Classical.byContradiction fun hi => ?_
    have h1 : 128 ^ 9 ≤ 128 ^ i := Nat.pow_le_pow_right (by decide) (by omega)
    have h2 : 1 * 128 ^ i ≤ m * 128 ^ i := Nat.mul_le_mul_right _ h0
    have h3 : maxNum < 128 ^ 9 := by decide
    omega
  intro f
  induction f with
  | zero =>
    intro m hm i n rest hi hv
    obtain rfl : m = 0 := by omega
    obtain rfl : i = 0 := by omega
    rw [enc_small 0 (by decide)]
    simp only [List.cons_append, List.nil_append, rdGo]
    rw [if_neg (by omega), u8_small 0 (by decide), if_neg (by simp at *; omega), if_pos (by decide)]
    simp
  | succ f ih =>
    intro m hm i n rest hi hv
    by_cases hs : m < 128
    · have hi9 : i ≠ 9 := by
        rcases hi with h | h
        · omega
        · have := h9 m i h (by omega); omega
      rw [enc_small m hs]
      simp only [List.cons_append, List.nil_append, rdGo]
      have e : m % 128 = m := Nat.mod_eq_of_lt hs
      rw [u8_small m (by omega), e, if_neg (by omega), if_neg (by omega), if_pos hs]
      simp
    · have hi9 := h9 m i (by omega) (by omega)
      have hmm : m * 128 ^ i = m % 128 * 128 ^ i + m / 128 * 128 ^ (i + 1) := by
        rw [Nat.pow_succ, ← Nat.mul_assoc, Nat.mul_right_comm, ← Nat.add_mul]
        congr 1
        omega
      rw [enc_big m hs]
      simp only [List.cons_append, rdGo]
      have e : (m % 128 + 128) % 128 = m % 128 := by omega
      rw [u8_small (m % 128 + 128) (by omega), e, if_neg (by omega), if_neg (by omega), if_neg (by omega), ih (m / 128) (by omega) (i + 1) _ rest (Or.inr (by omega)) (by omega), List.length_cons]
      congr 1
      rw [Prod.mk.injEq]
      omega
theorem rdGo_some : ∀ (l : L8) (i n v j : Nat), rdGo l i n = some (v, j) → ∃ m rest, l = enc m ++ rest ∧ v = n + m * 128 ^ i ∧ j = i + (enc m).length ∧ (i = 0 ∨ 0 < m) ∧ v ≤ maxNum := by
  intro l
  induction l with
  | nil => intro i n v j h; rw [rdGo] at h; cases h
  | cons c r ih =>
    intro i n v j h
    rw [rdGo] at h
    split at h
    · cases h
    · rename_i h1
      split at h
      · cases h
      · rename_i h2
        split at h
        · rename_i h3
          obtain ⟨rfl, rfl⟩ := Prod.mk.inj (Option.some.inj h)
          have e : c.toNat % 128 = c.toNat := Nat.mod_eq_of_lt h3
          rw [e] at h2 ⊢
          refine ⟨c.toNat, r, ?_, rfl, ?_, by omega, by omega⟩
          · rw [enc_small _ h3]; simp
          · rw [enc_small _ h3]; simp
        · rename_i h3
          obtain ⟨m, rest, rfl, rfl, rfl, hm, hv⟩ := ih _ _ _ _ h
          have hm0 : 0 < m := by omega
          have hc := c.toNat_lt
          have e1 : (c.toNat - 128 + 128 * m) / 128 = m := by omega
          have e2 : (c.toNat - 128 + 128 * m) % 128 + 128 = c.toNat := by omega
          have e3 : enc (c.toNat - 128 + 128 * m) = c :: enc m := by rw [enc_big _ (by omega), e1, e2]; simp
          have e4 : c.toNat % 128 = c.toNat - 128 := by omega
          refine ⟨c.toNat - 128 + 128 * m, rest, by rw [e3]; rfl, ?_, by rw [e3, List.length_cons]; omega, by omega, hv⟩
          rw [e4, Nat.add_mul, Nat.pow_succ, Nat.add_assoc]
          congr 2
          rw [← Nat.mul_assoc, Nat.mul_right_comm, Nat.mul_comm 128 m]
theorem rd7_enc (m : Nat) (rest : L8) (h : m ≤ maxNum) : rd7 (enc m ++ rest) = some (m, (enc m).length) := by
  have := rdGo_enc m m (Nat.le_refl _) 0 0 rest (Or.inl rfl) (by simpa using h)
  simpa [rd7] using this
theorem rd7_some (l : L8) (v j : Nat) (h : rd7 l = some (v, j)) : v ≤ maxNum ∧ j = (enc v).length ∧ l = enc v ++ l.drop j := by
  obtain ⟨m, rest, rfl, hv, hj, _, hm⟩ := rdGo_some l 0 0 v j h
  have e : v = m := by simpa using hv
  subst e
  have ej : j = (enc v).length := by omega
  subst ej
  refine ⟨hm, rfl, ?_⟩
  rw [List.drop_append_of_le_length (Nat.le_refl _), List.drop_length, List.nil_append]
theorem enc_le (v : Nat) (h : v ≤ maxNum) : (enc v).length ≤ 9 := enc_len 8 v (Nat.lt_of_le_of_lt h (by decide))
end Go.Proofs.Yteppmdafdopehaa.P
