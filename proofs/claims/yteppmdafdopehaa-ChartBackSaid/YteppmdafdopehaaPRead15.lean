/- The plain law: a number read by the code and by the document's answer. No program in sight; texts shorter than 2^60. -/
import Derived.Test.YteppmdafdopehaaPMay15
import Derived.Test.YteppmdafdopehaaPEnc15
import Derived.Test.YteppmdafdopehaaP20
import Derived.Test.YteppmdafdopehaaP21
import Derived.Test.YteppmdafdopehaaP22
import Derived.Laws.BitsLemmas
namespace Go.Proofs.Yteppmdafdopehaa.P.C4
open Go.RowKit Go.Proofs.YteppmdafdopehaaW.PrintWords Go.Proofs.YteppmdafdopehaaW.PrintLast Go.Proofs.YteppmdafdopehaaW.PrintMore
set_option linter.unusedVariables false
def bi (L : L8) : List Int := L.map fun c => (c.toNat : Int)
theorem bi_len (L : L8) : (bi L).length = L.length := List.length_map ..
theorem bi_app (L M : L8) : bi (L ++ M) = bi L ++ bi M := List.map_append ..
theorem bi_drop (L : L8) (n : Nat) : bi (L.drop n) = (bi L).drop n := (List.map_drop ..)
theorem bi_rd (L : L8) (i : Nat) (h : i < L.length) : rd (bi L) (i : Int) = ((L[i]).toNat : Int) := by unfold rd bi; simp [h]
theorem bytes_bi (s : ByteArray) : bytesOf s = bi s.data.toList := rfl
theorem str_bi (L : L8) : strOfNums (bi L) = ⟨L.toArray⟩ := by
  unfold strOfNums bi
  rw [List.map_map]
  congr 2
  have : ((fun n : Int => UInt8.ofNat n.toNat) ∘ fun c : UInt8 => (c.toNat : Int)) = id := by
    funext c; simp
  rw [this, List.map_id]
/-- What a reader answers. -/
def RdR (o : Option (Nat × Nat)) (r : Int × Int × Int) : Prop := match o with
  | some (v, j) => r = ((v : Int), (j : Int), 0)
  | none => r.1 = 0 ∧ r.2.1 = 0 ∧ r.2.2 ≠ 0
theorem pow_le8 (i : Nat) (h : i ≤ 8) : 128 ^ i ≤ 72057594037927936 := Nat.le_trans (Nat.pow_le_pow_right (by decide) h) (by decide)
theorem dig_lt (c i : Nat) (h : i ≤ 8) : c % 128 * 128 ^ i ≤ 127 * 72057594037927936 := Nat.mul_le_mul (by omega) (pow_le8 i h)
theorem next_lt (n c i : Nat) (h : n < 128 ^ i) : n + c % 128 * 128 ^ i < 128 ^ (i + 1) := by
  have h1 : c % 128 * 128 ^ i ≤ 127 * 128 ^ i := Nat.mul_le_mul_right _ (by omega)
  rw [Nat.pow_succ]
  omega
theorem or_join (n i : Nat) (c : UInt8) (hi : i ≤ 8) (hn : n < 128 ^ i) :
    Go.bits .or .i64 (n : Int) (shl .i64 (wrap64 (Go.bits .and .u8 (c.toNat : Int) 127)) (wrap64 (7 * (i : Int)))) = ((n + c.toNat % 128 * 128 ^ i : Nat) : Int) := by
  have hc := c.toNat_lt
  have e1 : Go.bits .and .u8 (c.toNat : Int) 127 = ((c.toNat % 128 : Nat) : Int) := by
    have h := bits_mask .u8 8 (by decide) wraps_u8 7 (by decide) (c.toNat : Int) (by omega) (by omega)
    have h2 : ((2 : Int) ^ 7 - 1) = 127 := by decide
    rw [h2] at h
    rw [h]
    omega
  have hp : (2 : Nat) ^ (7 * i) = 128 ^ i := by rw [Nat.pow_mul]
  have hb := dig_lt c.toNat i hi
  have hpl := pow_le8 i hi
  have e2 : shl .i64 (wrap64 (Go.bits .and .u8 (c.toNat : Int) 127)) (wrap64 (7 * (i : Int))) = ((c.toNat % 128 * 128 ^ i : Nat) : Int) := by
    rw [e1, w64_small (i := ((c.toNat % 128 : Nat) : Int)) (by omega) (by omega), w64_small (i := 7 * (i : Int)) (by omega) (by omega)]
    unfold shl
    have h3 : min (7 * (i : Int)).toNat IntKind.i64.bits = 7 * i := by
      have : IntKind.i64.bits = 64 := rfl
      rw [this]; omega
    rw [h3]
    have h4 : (((c.toNat % 128 : Nat) : Int) * 2 ^ (7 * i)) = ((c.toNat % 128 * 128 ^ i : Nat) : Int) := by
      rw [Int.natCast_mul, ← hp]
      simp
    rw [h4, IntKind.wrap_i64]
    omega
  rw [e2]
  have hk : ∀ n : Int, 0 ≤ n → n < 2 ^ 63 → IntKind.i64.wrap n = n := fun n h0 h1 => by rw [IntKind.wrap_i64]; omega
  rw [(bits_nat .i64 63 (by decide) hk n (c.toNat % 128 * 128 ^ i) (by omega) (by omega)).2, Nat.or_comm, Nat.mul_comm, ← hp, ← Nat.two_pow_add_eq_or_of_lt (by rw [hp]; exact hn)]
  rw [Nat.add_comm]
theorem max_int : ((maxNum : Nat) : Int) = 4611686018427387904 := rfl
theorem oread_loop (L : L8) (hL : L.length < 1152921504606846976) (d : Nat) : ∀ (i n : Nat), i + d = L.length → i ≤ 9 → n < 128 ^ i → n ≤ maxNum →
    ∃ r, Ev (fun k => octet_ReadNum.l0 k (n : Int) (bi L) (L.length : Int) (i : Int)) r ∧ RdR (rdGo (L.drop i) i n) r := by
  induction d with
  | zero =>
    intro i n hi _ _ _
    have e : i = L.length := by omega
    subst e
    rw [List.drop_length]
    refine ⟨(0, 0, 4), Ev.step (f := fun _ => some (0, 0, 4)) (fun k => ?_) (Ev.now _), ?_⟩
    · simp only [octet_ReadNum.l0]
      rw [if_neg (by omega)]
    · simp [rdGo, RdR]
  | succ d ih =>
    intro i n hi hi9 hn hm
    have hlt : i < L.length := by omega
    rw [List.drop_eq_getElem_cons hlt]
    have hrd := bi_rd L i hlt
    have hbl := bi_len L
    generalize hc : L[i] = c at hrd
    have hcl := c.toNat_lt
    simp only [rdGo]
    have s1 : ∀ k, octet_ReadNum.l0 (k + 1) (n : Int) (bi L) (L.length : Int) (i : Int) = octet_ReadNum.j1 k (n : Int) (i : Int) (c.toNat : Int) (bi L) (L.length : Int) (i : Int) (decide (i = 9 ∨ (0 < i ∧ c.toNat = 0))) := by
      intro k
      simp only [octet_ReadNum.l0]
      rw [if_pos (by omega), if_pos (by omega), if_pos (by rw [hbl]; omega), hrd]
      by_cases c9 : i = 9
      · rw [if_pos (by omega), decide_eq_true (Or.inl c9)]
      · rw [if_neg (by omega)]
        by_cases c0 : c.toNat = 0
        · rw [if_pos (by omega)]
          congr 1
          exact decide_eq_decide.2 (by omega)
        · rw [if_neg (by omega), decide_eq_false (by omega)]
    by_cases hbad : i = 9 ∨ (0 < i ∧ c.toNat = 0)
    · rw [if_pos hbad]
      refine ⟨(0, 0, 5), Ev.step s1 (Ev.step (f := fun _ => some (0, 0, 5)) (fun k => ?_) (Ev.now _)), by simp [RdR]⟩
      rw [decide_eq_true hbad]
      simp only [octet_ReadNum.j1]
      rw [if_pos trivial]
    · rw [if_neg hbad]
      have hi8 : i ≤ 8 := by omega
      have hj := or_join n i c hi8 hn
      have hnx := next_lt n c.toNat i hn
      have hdl := dig_lt c.toNat i hi8
      have hpl := pow_le8 i hi8
      generalize hm' : n + c.toNat % 128 * 128 ^ i = m at hj hnx
      have s2 : ∀ k, octet_ReadNum.j1 (k + 1) (n : Int) (i : Int) (c.toNat : Int) (bi L) (L.length : Int) (i : Int) (decide (i = 9 ∨ (0 < i ∧ c.toNat = 0))) = octet_ReadNum.j2 k (m : Int) (i : Int) (c.toNat : Int) (bi L) (L.length : Int) (i : Int) (decide (maxNum < m)) := by
        intro k
        rw [decide_eq_false hbad]
        simp only [octet_ReadNum.j1]
        rw [if_neg (by decide), hj, w64_small (i := 7 * (i : Int)) (by omega) (by omega), if_pos (by omega)]
        by_cases hx : maxNum < m
        · rw [if_pos (by have := max_int; omega), decide_eq_true hx]
        · rw [if_neg (by have := max_int; omega), decide_eq_false hx, decide_eq_false (by omega)]
      by_cases hx : maxNum < m
      · rw [if_pos hx]
        refine ⟨(0, 0, 5), Ev.step s1 (Ev.step s2 (Ev.step (f := fun _ => some (0, 0, 5)) (fun k => ?_) (Ev.now _))), by simp [RdR]⟩
        rw [decide_eq_true hx]
        simp only [octet_ReadNum.j2]
        rw [if_pos trivial]
      · rw [if_neg hx]
        by_cases h128 : c.toNat < 128
        · rw [if_pos h128]
          refine ⟨((m : Int), ((i + 1 : Nat) : Int), 0), Ev.step s1 (Ev.step s2 (Ev.step (f := fun _ => some ((m : Int), ((i + 1 : Nat) : Int), 0)) (fun k => ?_) (Ev.now _))), by simp [RdR]⟩
          rw [decide_eq_false hx]
          simp only [octet_ReadNum.j2]
          rw [if_neg (by decide), if_pos (by omega), w64_small (by omega) (by omega)]
          rfl
        · rw [if_neg h128]
          obtain ⟨r, h1, h2⟩ := ih (i + 1) m (by omega) (by omega) hnx (by omega)
          refine ⟨r, Ev.step s1 (Ev.step s2 (Ev.step (fun k => ?_) h1)), h2⟩
          rw [decide_eq_false hx]
          simp only [octet_ReadNum.j2]
          rw [if_neg (by decide), if_neg (by omega), w64_small (by omega) (by omega)]
          rfl
theorem oread_ev (L : L8) (hL : L.length < 1152921504606846976) : ∃ r, Ev (fun k => octet_ReadNum.f k (bi L)) r ∧ RdR (rd7 L) r := by
  obtain ⟨r, h1, h2⟩ := oread_loop L hL L.length 0 0 (by omega) (by omega) (by decide) (by decide)
  refine ⟨r, ?_, by simpa [rd7] using h2⟩
  unfold octet_ReadNum.f
  rw [bi_len]
  exact h1
end Go.Proofs.Yteppmdafdopehaa.P.C4
