/- The plain law: place.Of and its reference tell one place (FNV-1a folded), between 0 and 65535. No program in sight. No conditions but the size of a text. -/
import Derived.Test.YtimlagmgcfaepaaP2
import Derived.Test.YtimlagmgcfaepaaP3
import Derived.Laws.BitsAllLaws
namespace Go.Proofs.Ytimlagmgcfaepaa.P
open Go.RowKit Go.Proofs.YtimlagmgcfaepaaW.PrintWords Go.Proofs.YtimlagmgcfaepaaW.PrintLast

def fstep (h c : Nat) : Nat := ((h ^^^ c) * 16777619) % 4294967296
def fnv (s : ByteArray) : Nat → Nat
  | 0 => 2166136261
  | i + 1 => fstep (fnv s i) (bt s (i : Int)).toNat
/-- The place of a text. -/
def plc (s : ByteArray) : Nat := (fnv s s.size / 65536) ^^^ (fnv s s.size % 65536)

theorem fnv_lt (s : ByteArray) : ∀ i, fnv s i < 4294967296
  | 0 => by show 2166136261 < 4294967296; decide
  | i + 1 => Nat.mod_lt _ (by decide)
theorem plc_lt (s : ByteArray) : plc s < 65536 := by
  have h := fnv_lt s s.size
  have h1 : fnv s s.size / 65536 < 2 ^ 16 := by omega
  have h2 : fnv s s.size % 65536 < 2 ^ 16 := by omega
  exact Nat.xor_lt_two_pow h1 h2

theorem w64_small {i : Int} (h0 : 0 ≤ i) (h1 : i < 9223372036854775808) : wrap64 i = i := by
  unfold wrap64
  omega

theorem of_step (s : ByteArray) (i : Nat) : ((Go.bits .xor .u32 (fnv s i : Int) ((bt s (i : Int)) % 4294967296)) * 16777619) % 4294967296 = (fnv s (i + 1) : Int) := by
  have hb := bt_range s (i : Int)
  have hf := fnv_lt s i
  rw [u32_xor _ _ (by omega) (by omega) (by omega) (by omega)]
  have e : ((bt s (i : Int)) % 4294967296).toNat = (bt s (i : Int)).toNat := by omega
  rw [e, Int.toNat_natCast]
  show _ = ((fstep (fnv s i) (bt s (i : Int)).toNat : Nat) : Int)
  unfold fstep
  omega

theorem of_end (s : ByteArray) : wrap64 (Go.bits .xor .u32 ((fnv s s.size : Int) / 65536) (Go.bits .and .u32 (fnv s s.size : Int) 65535)) = (plc s : Int) := by
  have hf := fnv_lt s s.size
  have hm : Go.bits .and .u32 (fnv s s.size : Int) 65535 = ((fnv s s.size % 65536 : Nat) : Int) := by
    rw [u32_and _ _ (by omega) (by omega) (by omega) (by omega), Int.toNat_natCast]
    have e : (65535 : Int).toNat = 2 ^ 16 - 1 := rfl
    rw [e, Nat.and_two_pow_sub_one_eq_mod]
  rw [hm]
  have hd : (fnv s s.size : Int) / 65536 = ((fnv s s.size / 65536 : Nat) : Int) := by omega
  rw [hd, u32_xor_nat _ _ (by omega) (by omega)]
  have := plc_lt s
  exact w64_small (by omega) (by show ((plc s : Nat) : Int) < _; omega)

theorem of_loop (s : ByteArray) (hn : s.size ≤ 140737488351232) (d : Nat) : ∀ i : Nat, i + d = s.size → Ev (fun k => place_Of.l0 k s (fnv s i : Int) (s.size : Int) (i : Int)) (plc s : Int) := by
  induction d with
  | zero =>
    intro i hi
    have e : i = s.size := by omega
    subst e
    refine Ev.step (f := fun _ => some (plc s : Int)) (fun k => ?_) (Ev.now _)
    simp only [place_Of.l0]
    rw [if_neg (by omega), of_end]
  | succ d ih =>
    intro i hi
    refine Ev.step (fun k => ?_) (ih (i + 1) (by omega))
    simp only [place_Of.l0]
    rw [if_pos (by omega), if_pos (by omega), if_pos (by omega), of_step, w64_small (by omega) (by omega)]
    rfl
theorem of_ev (s : ByteArray) (hn : s.size ≤ 140737488351232) : Ev (fun k => place_Of.f k s) (plc s : Int) := of_loop s hn s.size 0 (by omega)

/-! the reference -/
theorem acc_succ (a b j : Nat) : (a ^^^ b) % 2 ^ (j + 1) = (a ^^^ b) % 2 ^ j + (if a / 2 ^ j % 2 = b / 2 ^ j % 2 then 0 else 2 ^ j) := by
  have h := Nat.testBit_xor a b j
  rw [Nat.testBit_eq_decide_div_mod_eq, Nat.testBit_eq_decide_div_mod_eq, Nat.testBit_eq_decide_div_mod_eq] at h
  rw [Nat.pow_succ, Nat.mod_mul]
  have h1 := Nat.mod_two_eq_zero_or_one (a / 2 ^ j)
  have h2 := Nat.mod_two_eq_zero_or_one (b / 2 ^ j)
  have h3 := Nat.mod_two_eq_zero_or_one ((a ^^^ b) / 2 ^ j)
  rcases h1 with h1 | h1 <;> rcases h2 with h2 | h2 <;> rcases h3 with h3 | h3 <;> simp [h1, h2, h3] at h ⊢
theorem half_of (a p : Nat) (ha : a < 4294967296) : Int.tmod (wrap64 (Int.tdiv (a : Int) (p : Int))) 2 = ((a / p % 2 : Nat) : Int) := by
  have h1 : Int.tdiv (a : Int) (p : Int) = ((a / p : Nat) : Int) := by
    rw [Int.tdiv_eq_ediv_of_nonneg (by omega), Int.natCast_ediv]
  have h2 : a / p ≤ a := Nat.div_le_self _ _
  rw [h1]
  generalize a / p = q at h2 ⊢
  rw [w64_small (by omega) (by omega), Int.tmod_eq_emod_of_nonneg (by omega)]
  omega
theorem half_eq (a j : Nat) (ha : a < 4294967296) : Int.tmod (wrap64 (Int.tdiv (a : Int) ((2 ^ j : Nat) : Int))) 2 = ((a / 2 ^ j % 2 : Nat) : Int) := half_of a _ ha
theorem twice_cast (p : Nat) (h : p ≤ 65536) : wrap64 ((p : Int) * 2) = ((p * 2 : Nat) : Int) := by
  rw [w64_small (by omega) (by omega)]
  omega
theorem two_pow_cast (j : Nat) (h : 2 ^ j ≤ 65536) : wrap64 (((2 ^ j : Nat) : Int) * 2) = ((2 ^ (j + 1) : Nat) : Int) := by
  rw [Nat.pow_succ]
  exact twice_cast _ h
theorem add_cast (m p : Nat) (hm : m < 65536) (h : p ≤ 65536) : wrap64 ((m : Int) + (p : Int)) = ((m + p : Nat) : Int) := by
  rw [w64_small (by omega) (by omega)]
  omega
theorem cast_ne {p q : Nat} (h : ¬ p = q) : ¬ ((p : Int) = (q : Int)) := by omega
theorem lt_256 (p : Nat) (h : p < 256) : (p : Int) < 256 := by omega
theorem lt_65536 (p : Nat) (h : p < 65536) : (p : Int) < 65536 := by omega
theorem ne_cast (p : Nat) (h : 0 < p) : ¬ (p : Int) = 0 := by omega

theorem ref_l1 (s : ByteArray) (x3 x4 : Int) (a b : Nat) (ha : a < 4294967296) (hb : b < 4294967296) (r : Int) (h : Ev (fun k => racewayref04_Of.l0 k s (Int.tmod (wrap64 ((wrap64 ((wrap64 (x3 - (a : Int))) + (((a ^^^ b) % 2 ^ 8 : Nat) : Int))) * 16777619)) 4294967296) (wrap64 (x4 + 1))) r) (d : Nat) :
    ∀ j : Nat, j + d = 8 → Ev (fun k => racewayref04_Of.l1 k s x3 x4 (a : Int) (b : Int) (((a ^^^ b) % 2 ^ j : Nat) : Int) ((2 ^ j : Nat) : Int)) r := by
  induction d with
  | zero =>
    intro j hj
    obtain rfl : j = 8 := by omega
    refine Ev.step (fun k => ?_) h
    simp only [racewayref04_Of.l1]
    rw [if_neg (by decide)]
  | succ d ih =>
    intro j hj
    have hp : 2 ^ j ≤ 2 ^ 7 := Nat.pow_le_pow_right (by decide) (by omega)
    have h0 : 0 < 2 ^ j := Nat.two_pow_pos j
    have hm : (a ^^^ b) % 2 ^ j < 2 ^ j := Nat.mod_lt _ h0
    have ih' := ih (j + 1) (by omega)
    rw [acc_succ] at ih'
    refine Ev.step (fun k => ?_) ih'
    simp only [racewayref04_Of.l1]
    rw [if_pos (lt_256 _ (by omega)), if_neg (ne_cast _ h0), half_eq a j ha, half_eq b j hb, two_pow_cast j (by omega)]
    by_cases e : a / 2 ^ j % 2 = b / 2 ^ j % 2
    · rw [if_pos (by rw [e]), if_pos e]
      rfl
    · rw [if_neg (cast_ne e), if_neg e, add_cast _ _ (by omega) (by omega)]
theorem ref_l2 (a b : Nat) (ha : a < 65536) (hb : b < 65536) (d : Nat) :
    ∀ j : Nat, j + d = 16 → Ev (fun k => racewayref04_Of.l2 k (a : Int) (b : Int) (((a ^^^ b) % 2 ^ j : Nat) : Int) ((2 ^ j : Nat) : Int)) ((a ^^^ b : Nat) : Int) := by
  induction d with
  | zero =>
    intro j hj
    obtain rfl : j = 16 := by omega
    refine Ev.step (f := fun _ => some ((a ^^^ b : Nat) : Int)) (fun k => ?_) (Ev.now _)
    simp only [racewayref04_Of.l2]
    have hx : a ^^^ b < 2 ^ 16 := Nat.xor_lt_two_pow ha hb
    rw [if_neg (by decide), Nat.mod_eq_of_lt hx]
  | succ d ih =>
    intro j hj
    have hp : 2 ^ j ≤ 2 ^ 15 := Nat.pow_le_pow_right (by decide) (by omega)
    have h0 : 0 < 2 ^ j := Nat.two_pow_pos j
    have hm : (a ^^^ b) % 2 ^ j < 2 ^ j := Nat.mod_lt _ h0
    have ih' := ih (j + 1) (by omega)
    rw [acc_succ] at ih'
    refine Ev.step (fun k => ?_) ih'
    simp only [racewayref04_Of.l2]
    rw [if_pos (lt_65536 _ (by omega)), if_neg (ne_cast _ h0), half_eq a j (by omega), half_eq b j (by omega), two_pow_cast j (by omega)]
    by_cases e : a / 2 ^ j % 2 = b / 2 ^ j % 2
    · rw [if_pos (by rw [e]), if_pos e]
      rfl
    · rw [if_neg (cast_ne e), if_neg e, add_cast _ _ (by omega) (by omega)]

theorem xor_low (h b : Nat) (hb : b < 256) : (h ^^^ b) = h - h % 256 + ((h % 256) ^^^ b) := by
  have e1 := Nat.div_add_mod (h ^^^ b) (2 ^ 8)
  have e2 : (h ^^^ b) % 2 ^ 8 = (h % 2 ^ 8) ^^^ (b % 2 ^ 8) := Nat.xor_mod_two_pow
  have e3 : (h ^^^ b) / 2 ^ 8 = (h / 2 ^ 8) ^^^ (b / 2 ^ 8) := Nat.xor_div_two_pow
  have e4 : b / 2 ^ 8 = 0 := by omega
  have e5 : b % 2 ^ 8 = b := by omega
  rw [e2, e3, e4, e5, Nat.xor_zero] at e1
  have e6 := Nat.div_add_mod h (2 ^ 8)
  simp only [show (2 : Nat) ^ 8 = 256 from rfl] at e1 e2 e3 e4 e5 e6
  omega

theorem ref_step (s : ByteArray) (i : Nat) : Int.tmod (wrap64 ((wrap64 ((wrap64 ((fnv s i : Int) - ((fnv s i % 256 : Nat) : Int))) + ((((fnv s i % 256) ^^^ (bt s (i : Int)).toNat) % 2 ^ 8 : Nat) : Int))) * 16777619)) 4294967296 = (fnv s (i + 1) : Int) := by
  have hb := bt_range s (i : Int)
  have hf := fnv_lt s i
  have hx := xor_low (fnv s i) (bt s (i : Int)).toNat (by omega)
  have h8 : ((fnv s i % 256) ^^^ (bt s (i : Int)).toNat) < 2 ^ 8 := Nat.xor_lt_two_pow (by omega) (by omega)
  rw [Nat.mod_eq_of_lt h8]
  rw [w64_small (i := (fnv s i : Int) - ((fnv s i % 256 : Nat) : Int)) (by omega) (by omega)]
  have e : (fnv s i : Int) - ((fnv s i % 256 : Nat) : Int) + (((fnv s i % 256) ^^^ (bt s (i : Int)).toNat : Nat) : Int) = ((fnv s i ^^^ (bt s (i : Int)).toNat : Nat) : Int) := by rw [hx]; omega
  rw [e]
  have hlt : fnv s i ^^^ (bt s (i : Int)).toNat < 2 ^ 32 := Nat.xor_lt_two_pow (by omega) (by omega)
  generalize hy : fnv s i ^^^ (bt s (i : Int)).toNat = y at hlt ⊢
  rw [w64_small (i := (y : Int)) (by omega) (by omega), w64_small (by omega) (by omega), Int.tmod_eq_emod_of_nonneg (by omega)]
  show _ = ((fstep (fnv s i) (bt s (i : Int)).toNat : Nat) : Int)
  unfold fstep
  rw [hy]
  omega

theorem ref_loop (s : ByteArray) (hn : s.size ≤ 140737488351232) (d : Nat) : ∀ i : Nat, i + d = s.size → Ev (fun k => racewayref04_Of.l0 k s (fnv s i : Int) (i : Int)) (plc s : Int) := by
  induction d with
  | zero =>
    intro i hi
    have e : i = s.size := by omega
    subst e
    have hf := fnv_lt s s.size
    have h2 := ref_l2 (fnv s s.size / 65536) (fnv s s.size % 65536) (by omega) (by omega) 16 0 (by omega)
    refine Ev.step (fun k => ?_) h2
    simp only [racewayref04_Of.l0]
    rw [if_neg (by omega)]
    have e1 : wrap64 (Int.tdiv (fnv s s.size : Int) 65536) = ((fnv s s.size / 65536 : Nat) : Int) := by
      rw [Int.tdiv_eq_ediv_of_nonneg (by omega), w64_small (by omega) (by omega)]
      omega
    have e2 : Int.tmod (fnv s s.size : Int) 65536 = ((fnv s s.size % 65536 : Nat) : Int) := by
      rw [Int.tmod_eq_emod_of_nonneg (by omega)]
      omega
    rw [e1, e2]
    simp [Nat.mod_one]
  | succ d ih =>
    intro i hi
    have hb := bt_range s (i : Int)
    have hf := fnv_lt s i
    have ih' := ih (i + 1) (by omega)
    have h1 := ref_l1 s (fnv s i : Int) (i : Int) (fnv s i % 256) (bt s (i : Int)).toNat (by omega) (by omega) (plc s : Int) (by
      rw [ref_step, w64_small (by omega) (by omega)]
      exact ih') 8 0 (by omega)
    refine Ev.step (fun k => ?_) h1
    simp only [racewayref04_Of.l0]
    rw [if_pos (by omega), if_pos (by omega)]
    have e1 : Int.tmod (fnv s i : Int) 256 = ((fnv s i % 256 : Nat) : Int) := by
      rw [Int.tmod_eq_emod_of_nonneg (by omega)]
      omega
    have e2 : wrap64 (bt s (i : Int)) = (((bt s (i : Int)).toNat : Nat) : Int) := by
      rw [w64_small (by omega) (by omega)]
      omega
    rw [e1, e2]
    simp [Nat.mod_one]
theorem ref_ev (s : ByteArray) (hn : s.size ≤ 140737488351232) : Ev (fun k => racewayref04_Of.f k s) (plc s : Int) := ref_loop s hn s.size 0 (by omega)
end Go.Proofs.Ytimlagmgcfaepaa.P
