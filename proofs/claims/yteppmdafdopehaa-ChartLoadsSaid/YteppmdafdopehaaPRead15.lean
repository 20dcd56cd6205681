/- The plain law: a number read by the code and by the document's answer. No program in sight; texts shorter than 2^60. -/
import Derived.Test.YteppmdafdopehaaPMay15
import Derived.Test.YteppmdafdopehaaPEnc15
import Derived.Test.YteppmdafdopehaaP20
import Derived.Test.YteppmdafdopehaaP21
import Derived.Test.YteppmdafdopehaaP22
import Derived.Laws.BitsLemmas
namespace Go.Proofs.Yteppmdafdopehaa.P.C4
open Go.RowKit Go.Proofs.YteppmdafdopehaaW.PrintWords Go.Proofs.YteppmdafdopehaaW.PrintLast Go.Proofs.YteppmdafdopehaaW.PrintMore
set_option linter.unusedVariables false
def bi (L : L8) : List Int := L.map fun c => (c.toNat : Int)
theorem bi_len (L : L8) : (bi L).length = L.length := List.length_map ..
theorem bi_app (L M : L8) : bi (L ++ M) = bi L ++ bi M := List.map_append ..
theorem bi_drop (L : L8) (n : Nat) : bi (L.drop n) = (bi L).drop n := (List.map_drop ..)
theorem bi_rd (L : L8) (i : Nat) (h : i < L.length) : rd (bi L) (i : Int) = ((L[i]).toNat : Int) := by unfold rd bi; simp [h]
theorem bytes_bi (s : ByteArray) : bytesOf s = bi s.data.toList := rfl
theorem str_bi (L : L8) : strOfNums (bi L) = ⟨L.toArray⟩ := by
  unfold strOfNums bi
  rw [List.map_map]
  congr 2
  have : ((fun n : Int => UInt8.ofNat n.toNat) ∘ fun c : UInt8 => (c.toNat : Int)) = id := by
    funext c; simp
  rw [this, List.map_id]
/-- What a reader answers. -/
def RdR (o : Option (Nat × Nat)) (r : Int × Int × Int) : Prop := match o with
  | some (v, j) => r = ((v : Int), (j : Int), 0)
  | none => r.1 = 0 ∧ r.2.1 = 0 ∧ r.2.2 ≠ 0
theorem pow_le8 (i : Nat) (h : i ≤ 8) : 128 ^ i ≤ 72057594037927936 := Nat.le_trans (Nat.pow_le_pow_right (by decide) h) (by decide)
theorem dig_lt (c i : Nat) (h : i ≤ 8) : c % 128 * 128 ^ i ≤ 127 * 72057594037927936 := Nat.mul_le_mul (by omega) (pow_le8 i h)
theorem next_lt (n c i : Nat) (h : n < 128 ^ i) : n + c % 128 * 128 ^ i < 128 ^ (i + 1) := by
  have h1 : c % 128 * 128 ^ i ≤ 127 * 128 ^ i := Nat.mul_le_mul_right _ (by omega)
  rw [Nat.pow_succ]
  omega
theorem or_join (n i : Nat) (c : UInt8) (hi : i ≤ 8) (hn : n < 128 ^ i) :
    Go.bits .or .i64 (n : Int) (shl .i64 (wrap64 (Go.bits .and .u8 (c.toNat : Int) 127)) (wrap64 (7 * (i : Int)))) = ((n + c.toNat % 128 * 128 ^ i : Nat) : Int) := by
  have hc := c.toNat_lt
  have e1 : Go.bits .and .u8 (c.toNat : Int) 127 = ((c.toNat % 128 : Nat) : Int) := by
    have h := bits_mask .u8 8 (by decide) wraps_u8 7 (by decide) (c.toNat : Int) (by omega) (by omega)
    have h2 : ((2 : Int) ^ 7 - 1) = 127 := by decide
    rw [h2] at h
    rw [h]
    omega
  have hp : (2 : Nat) ^ (7 * i) = 128 ^ i := by rw [Nat.pow_mul]
  have hb := dig_lt c.toNat i hi
  have hpl := pow_le8 i hi
  have e2 : shl .i64 (wrap64 (Go.bits .and .u8 (c.toNat : Int) 127)) (wrap64 (7 * (i : Int))) = ((c.toNat % 128 * 128 ^ i : Nat) : Int) := by
    rw [e1, w64_small (i := ((c.toNat % 128 : Nat) : Int)) (by omega) (by omega), w64_small (i := 7 * (i : Int)) (by omega) (by omega)]
    unfold shl
    have h3 : min (7 * (i : Int)).toNat IntKind.i64.bits = 7 * i := by
      have : IntKind.i64.bits = 64 := rfl
      rw [this]; omega
    rw [h3]
    have h4 : (((c.toNat % 128 : Nat) : Int) * 2 ^ (7 * i)) = ((c.toNat % 128 * 128 ^ i : Nat) : Int) := by
      rw [Int.natCast_mul, ← hp]
      simp
    rw [h4, IntKind.wrap_i64]
    omega
  rw [e2]
  have hk : ∀ n : Int, 0 ≤ n → n < 2 ^ 63 → IntKind.i64.wrap n = n := fun n h0 h1 => by rw [IntKind.wrap_i64]; omega
  rw [(bits_nat .i64 63 (by decide) hk n (c.toNat % 128 * 128 ^ i) (by omega) (by omega)).2, Nat.or_comm, Nat.mul_comm, ← hp, ← Nat.two_pow_add_eq_or_of_lt (by rw [hp]; exact hn)]
  rw [Nat.add_comm]
theorem max_int : ((maxNum : Nat) : Int) = 4611686018427387904 := rfl
theorem oread_loop (L : L8) (hL : L.length < 1152921504606846976) (d : Nat) : ∀ (i n : Nat), i + d = L.length → i ≤ 9 → n < 128 ^ i → n ≤ maxNum →
    ∃ r, Ev (fun k => octet_ReadNum.l0 k (n : Int) (bi L) (L.length : Int) (i : Int)) r ∧ RdR (rdGo (L.drop i) i n) r := by
  induction d with
  | zero =>
    intro i n hi _ _ _
    have e : i = L.length := by omega
    subst e
    rw [List.drop_length]
    refine ⟨(0, 0, 4), Ev.step (f := fun _ => some (0, 0, 4)) (fun k => ?_) (Ev.now _), ?_⟩
    · simp only [octet_ReadNum.l0]
      rw [if_neg (by omega)]
    · simp [rdGo, RdR]
  | succ d ih =>
    intro i n hi hi9 hn hm
    have hlt : i < L.length := by omega
    rw [List.drop_eq_getElem_cons hlt]
    have hrd := bi_rd L i hlt
    have hbl := bi_len L
    generalize hc : L[i] = c at hrd
    have hcl := c.toNat_lt
    simp only [rdGo]
    have s1 : ∀ k, octet_ReadNum.l0 (k + 1) (n : Int) (bi L) (L.length : Int) (i : Int) = octet_ReadNum.j1 k (n : Int) (i : Int) (c.toNat : Int) (bi L) (L.length : Int) (i : Int) (decide (i = 9 ∨ (0 < i ∧ c.toNat = 0))) := by
      intro k
      simp only [octet_ReadNum.l0]
      rw [if_pos (by omega), if_pos (by omega), if_pos (by rw [hbl]; omega), hrd]
      by_cases c9 : i = 9
      · rw [if_pos (by omega), decide_eq_true (Or.inl c9)]
      · rw [if_neg (by omega)]
        by_cases c0 : c.toNat = 0
        · rw [if_pos (by omega)]
          congr 1
          exact decide_eq_decide.2 (by omega)
        · rw [if_neg (by omega), decide_eq_false (by omega)]
    by_cases hbad : i = 9 ∨ (0 < i ∧ c.toNat = 0)
    · rw [if_pos hbad]
      refine ⟨(0, 0, 5), Ev.step s1 (Ev.step (f := fun _ => some (0, 0, 5)) (fun k => ?_) (Ev.now _)), by simp [RdR]⟩
      rw [decide_eq_true hbad]
      simp only [octet_ReadNum.j1]
      rw [if_pos trivial]
    · rw [if_neg hbad]
      have hi8 : i ≤ 8 := by omega
      have hj := or_join n i c hi8 hn
      have hnx := next_lt n c.toNat i hn
      have hdl := dig_lt c.toNat i hi8
      have hpl := pow_le8 i hi8
      generalize hm' : n + c.toNat % 128 * 128 ^ i = m at hj hnx
      have s2 : ∀ k, octet_ReadNum.j1 (k + 1) (n : Int) (i : Int) (c.toNat : Int) (bi L) (L.length : Int) (i : Int) (decide (i = 9 ∨ (0 < i ∧ c.toNat = 0))) = octet_ReadNum.j2 k (m : Int) (i : Int) (c.toNat : Int) (bi L) (L.length : Int) (i : Int) (decide (maxNum < m)) := by
        intro k
        rw [decide_eq_false hbad]
        simp only [octet_ReadNum.j1]
        rw [if_neg (by decide), hj, w64_small (i := 7 * (i : Int)) (by omega) (by omega), if_pos (by omega)]
        by_cases hx : maxNum < m
        · rw [if_pos (by have := max_int; omega), decide_eq_true hx]
        · rw [if_neg (by have := max_int; omega), decide_eq_false hx, decide_eq_false (by omega)]
      by_cases hx : maxNum < m
      · rw [if_pos hx]
        refine ⟨(0, 0, 5), Ev.step s1 (Ev.step s2 (Ev.step (f := fun _ => some (0, 0, 5)) (fun k => ?_) (Ev.now _))), by simp [RdR]⟩
        rw [decide_eq_true hx]
        simp only [octet_ReadNum.j2]
        rw [if_pos trivial]
      · rw [if_neg hx]
        by_cases h128 : c.toNat < 128
        · rw [if_pos h128]
          refine ⟨((m : Int), ((i + 1 : Nat) : Int), 0), Ev.step s1 (Ev.step s2 (Ev.step (f := fun _ => some ((m : Int), ((i + 1 : Nat) : Int), 0)) (fun k => ?_) (Ev.now _))), by simp [RdR]⟩
          rw [decide_eq_false hx]
          simp only [octet_ReadNum.j2]
          rw [if_neg (by decide), if_pos (by omega), w64_small (by omega) (by omega)]
          rfl
        · rw [if_neg h128]
          obtain ⟨r, h1, h2⟩ := ih (i + 1) m (by omega) (by omega) hnx (by omega)
          refine ⟨r, Ev.step s1 (Ev.step s2 (Ev.step (fun k => ?_) h1)), h2⟩
          rw [decide_eq_false hx]
          simp only [octet_ReadNum.j2]
          rw [if_neg (by decide), if_neg (by omega), w64_small (by omega) (by omega)]
          rfl
theorem oread_ev (L : L8) (hL : L.length < 1152921504606846976) : ∃ r, Ev (fun k => octet_ReadNum.f k (bi L)) r ∧ RdR (rd7 L) r := by
  obtain ⟨r, h1, h2⟩ := oread_loop L hL L.length 0 0 (by omega) (by omega) (by decide) (by decide)
  refine ⟨r, ?_, by simpa [rd7] using h2⟩
  unfold octet_ReadNum.f
  rw [bi_len]
  exact h1
theorem tmod128 (c : Nat) : Int.tmod (c : Int) 128 = ((c % 128 : Nat) : Int) := by rw [Int.tmod_eq_emod_of_nonneg (by omega)]; omega
theorem rread_loop (L : L8) (hL : L.length < 1152921504606846976) (d : Nat) : ∀ (i n : Nat) (m : Int), i + d = L.length → i ≤ 9 → n < 128 ^ i → n ≤ maxNum → (i ≤ 8 → m = ((128 ^ i : Nat) : Int)) →
    ∃ r, Ev (fun k => racewayref01_ReadNum.l0 k (bi L) (n : Int) m (i : Int)) r ∧ RdR (rdGo (L.drop i) i n) r := by
  induction d with
  | zero =>
    intro i n m hi _ _ _ _
    have e : i = L.length := by omega
    subst e
    rw [List.drop_length]
    refine ⟨(0, 0, 4), Ev.step (f := fun _ => some (0, 0, 4)) (fun k => ?_) (Ev.now _), ?_⟩
    · simp only [racewayref01_ReadNum.l0]
      rw [if_neg (by rw [bi_len]; omega)]
    · simp [rdGo, RdR]
  | succ d ih =>
    intro i n m hi hi9 hn hmx hme
    have hlt : i < L.length := by omega
    rw [List.drop_eq_getElem_cons hlt]
    have hrd := bi_rd L i hlt
    have hbl := bi_len L
    generalize hc : L[i] = c at hrd
    have hcl := c.toNat_lt
    simp only [rdGo]
    have s1 : ∀ k, racewayref01_ReadNum.l0 (k + 1) (bi L) (n : Int) m (i : Int) = racewayref01_ReadNum.j1 k (bi L) (n : Int) m (i : Int) (decide (i = 9 ∨ (0 < i ∧ c.toNat = 0))) := by
      intro k
      simp only [racewayref01_ReadNum.l0]
      rw [if_pos (by rw [hbl]; omega)]
      by_cases c9 : i = 9
      · rw [if_pos (by omega), decide_eq_true (Or.inl c9)]
      · rw [if_neg (by omega)]
        by_cases c0 : 0 < i
        · rw [if_pos (by omega), if_pos (by omega), hrd]
          congr 1
          rw [Bool.eq_iff_iff, beq_iff_eq, decide_eq_true_iff]
          omega
        · rw [if_neg (by omega), decide_eq_false (by omega)]
    by_cases hbad : i = 9 ∨ (0 < i ∧ c.toNat = 0)
    · rw [if_pos hbad]
      refine ⟨(0, 0, 5), Ev.step s1 (Ev.step (f := fun _ => some (0, 0, 5)) (fun k => ?_) (Ev.now _)), by simp [RdR]⟩
      rw [decide_eq_true hbad]
      simp only [racewayref01_ReadNum.j1]
      rw [if_pos trivial]
    · rw [if_neg hbad]
      have hi8 : i ≤ 8 := by omega
      have hnx := next_lt n c.toNat i hn
      have hdl := dig_lt c.toNat i hi8
      have hpl := pow_le8 i hi8
      have hm := hme hi8
      subst hm
      have hov : (0 < c.toNat % 128 ∧ i = 8 ∧ (64 < c.toNat % 128 ∨ (c.toNat % 128 = 64 ∧ 0 < n))) ↔ maxNum < n + c.toNat % 128 * 128 ^ i := by
        by_cases h8 : i = 8
        · subst h8
          have : (128 : Nat) ^ 8 = 72057594037927936 := by decide
          rw [this] at hn ⊢
          unfold maxNum
          omega
        · have h7 : 128 ^ (i + 1) ≤ 72057594037927936 := pow_le8 (i + 1) (by omega)
          have : maxNum = 4611686018427387904 := rfl
          omega
      have s2 : ∀ k, racewayref01_ReadNum.j1 (k + 1) (bi L) (n : Int) ((128 ^ i : Nat) : Int) (i : Int) (decide (i = 9 ∨ (0 < i ∧ c.toNat = 0))) = racewayref01_ReadNum.j2 k (bi L) (n : Int) ((128 ^ i : Nat) : Int) (i : Int) ((c.toNat % 128 : Nat) : Int) (decide (maxNum < n + c.toNat % 128 * 128 ^ i)) := by
        intro k
        rw [decide_eq_false hbad]
        simp only [racewayref01_ReadNum.j1]
        rw [if_neg (by decide), if_pos (by omega), if_pos (by rw [hbl]; omega), hrd, tmod128, w64_small (i := ((c.toNat % 128 : Nat) : Int)) (by omega) (by omega)]
        by_cases h0 : 0 < c.toNat % 128
        · rw [if_pos (by omega)]
          by_cases h8 : i = 8
          · rw [if_pos (by omega)]
            by_cases h64 : 64 < c.toNat % 128
            · rw [if_pos (by omega), decide_eq_true (hov.1 ⟨h0, h8, Or.inl h64⟩)]
            · rw [if_neg (by omega)]
              by_cases h65 : c.toNat % 128 = 64
              · rw [if_pos (by omega)]
                congr 1
                refine decide_eq_decide.2 (Iff.trans ?_ hov)
                omega
              · rw [if_neg (by omega), decide_eq_false (fun hh => by have := hov.2 hh; omega)]
          · rw [if_neg (by omega), decide_eq_false (fun hh => by have := hov.2 hh; omega)]
        · rw [if_neg (by omega), decide_eq_false (fun hh => by have := hov.2 hh; omega)]
      have hmul : ((c.toNat % 128 : Nat) : Int) * ((128 ^ i : Nat) : Int) = ((c.toNat % 128 * 128 ^ i : Nat) : Int) := (Int.natCast_mul _ _).symm
      clear hov
      generalize hz : c.toNat % 128 * 128 ^ i = z at *
      by_cases hx : maxNum < n + z
      · rw [if_pos hx]
        refine ⟨(0, 0, 5), Ev.step s1 (Ev.step s2 (Ev.step (f := fun _ => some (0, 0, 5)) (fun k => ?_) (Ev.now _))), by simp [RdR]⟩
        rw [decide_eq_true hx]
        simp only [racewayref01_ReadNum.j2]
        rw [if_pos trivial]
      · rw [if_neg hx]
        by_cases h128 : c.toNat < 128
        · rw [if_pos h128]
          refine ⟨((n + z : Nat), ((i + 1 : Nat) : Int), 0), Ev.step s1 (Ev.step s2 (Ev.step (f := fun _ => some (((n + z : Nat) : Int), ((i + 1 : Nat) : Int), 0)) (fun k => ?_) (Ev.now _))), by simp [RdR]⟩
          rw [decide_eq_false hx]
          simp only [racewayref01_ReadNum.j2]
          rw [if_neg (by decide), if_pos (by omega), if_pos (by rw [hbl]; omega), hrd, if_pos (by omega), hmul, w64_small (i := (z : Int)) (by omega) (by omega), w64_small (i := (n : Int) + (z : Int)) (by omega) (by have := max_int; omega), w64_small (i := (i : Int) + 1) (by omega) (by omega)]
          rfl
        · rw [if_neg h128]
          by_cases h8 : i < 8
          · obtain ⟨r, h1, h2⟩ := ih (i + 1) (n + z) ((128 ^ (i + 1) : Nat) : Int) (by omega) (by omega) hnx (by omega) (fun _ => rfl)
            refine ⟨r, Ev.step s1 (Ev.step s2 (Ev.step (fun k => ?_) h1)), h2⟩
            rw [decide_eq_false hx]
            simp only [racewayref01_ReadNum.j2]
            have hp1 : ((128 ^ i : Nat) : Int) * 128 = ((128 ^ (i + 1) : Nat) : Int) := by rw [Nat.pow_succ]; simp
            have h7 : 128 ^ (i + 1) ≤ 72057594037927936 := pow_le8 (i + 1) (by omega)
            rw [if_neg (by decide), if_pos (by omega), if_pos (by rw [hbl]; omega), hrd, if_neg (by omega), if_pos (by omega), hmul, w64_small (i := (z : Int)) (by omega) (by omega), w64_small (i := (n : Int) + (z : Int)) (by omega) (by have := max_int; omega), w64_small (i := (i : Int) + 1) (by omega) (by omega), hp1, w64_small (by omega) (by omega)]
            rfl
          · obtain ⟨r, h1, h2⟩ := ih (i + 1) (n + z) ((128 ^ i : Nat) : Int) (by omega) (by omega) hnx (by omega) (fun h => by omega)
            refine ⟨r, Ev.step s1 (Ev.step s2 (Ev.step (fun k => ?_) h1)), h2⟩
            rw [decide_eq_false hx]
            simp only [racewayref01_ReadNum.j2]
            rw [if_neg (by decide), if_pos (by omega), if_pos (by rw [hbl]; omega), hrd, if_neg (by omega), if_neg (by omega), hmul, w64_small (i := (z : Int)) (by omega) (by omega), w64_small (i := (n : Int) + (z : Int)) (by omega) (by have := max_int; omega), w64_small (i := (i : Int) + 1) (by omega) (by omega)]
            rfl
theorem rread_ev (L : L8) (hL : L.length < 1152921504606846976) : ∃ r, Ev (fun k => racewayref01_ReadNum.f k (bi L)) r ∧ RdR (rd7 L) r := by
  obtain ⟨r, h1, h2⟩ := rread_loop L hL L.length 0 0 1 (by omega) (by omega) (by decide) (by decide) (fun _ => rfl)
  exact ⟨r, h1, by simpa [rd7] using h2⟩
theorem rnum_loop : ∀ (f v : Nat), v ≤ f → ∀ (X : L8), v ≤ maxNum → X.length + (enc v).length < 140737488355328 → Ev (fun k => racewayref01_Num.l0 k (v : Int) (bi X)) (bi (X ++ enc v), 0) := by
  intro f
  induction f with
  | zero =>
    intro v hv X hm hX
    obtain rfl : v = 0 := by omega
    rw [enc_small 0 (by decide)] at hX ⊢
    refine Ev.step (f := fun _ => some (bi (X ++ [UInt8.ofNat 0]), 0)) (fun k => ?_) (Ev.now _)
    simp only [racewayref01_Num.l0]
    rw [if_neg (by omega), if_pos (by rw [bi_len]; simp at hX; omega), bi_app]
    rfl
  | succ f ih =>
    intro v hv X hm hX
    by_cases h : v < 128
    · rw [enc_small v h] at hX ⊢
      refine Ev.step (f := fun _ => some (bi (X ++ [UInt8.ofNat v]), 0)) (fun k => ?_) (Ev.now _)
      simp only [racewayref01_Num.l0]
      rw [if_neg (by omega), if_pos (by rw [bi_len]; simp at hX; omega), bi_app]
      congr 3
    · rw [enc_big v h] at hX ⊢
      have := max_int
      have h1 := ih (v / 128) (by omega) (X ++ [UInt8.ofNat (v % 128 + 128)]) (by omega) (by simp at hX ⊢; omega)
      rw [List.append_assoc] at h1
      refine Ev.step (fun k => ?_) h1
      simp only [racewayref01_Num.l0]
      have e1 : Int.tdiv (v : Int) 128 = ((v / 128 : Nat) : Int) := by rw [Int.tdiv_eq_ediv_of_nonneg (by omega)]; omega
      rw [if_pos (by omega), if_pos (by rw [bi_len]; simp at hX; omega), e1, tmod128, w64_small (by omega) (by omega), w64_small (by omega) (by omega), bi_app]
      congr 2
theorem rnum_ev (v : Nat) (X : L8) (hm : v ≤ maxNum) (hX : X.length + 9 < 140737488355328) : Ev (fun k => racewayref01_Num.f k (bi X) (v : Int)) (bi (X ++ enc v), 0) := by
  have hl := enc_le v hm
  have := max_int
  refine Ev.congr (f := fun k => racewayref01_Num.j0 k (bi X) (v : Int) false) (fun k => ?_) (Ev.step (fun k => ?_) (rnum_loop v v (Nat.le_refl _) X hm (by omega)))
  · unfold racewayref01_Num.f
    rw [if_neg (by omega), decide_eq_false (by omega)]
  · simp only [racewayref01_Num.j0]
    rw [if_neg (by decide)]
    simp only [Option.bind_some]
    rw [if_pos (by rw [bi_len]; simp; omega)]
    rfl
end Go.Proofs.Yteppmdafdopehaa.P.C4
