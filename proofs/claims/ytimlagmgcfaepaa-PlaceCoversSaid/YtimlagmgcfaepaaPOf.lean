/- The plain law: place.Of and its reference tell one place (FNV-1a folded), between 0 and 65535. No program in sight. No conditions but the size of a text. -/
import Derived.Test.YtimlagmgcfaepaaP2
import Derived.Laws.BitsAllLaws
namespace Go.Proofs.Ytimlagmgcfaepaa.P
open Go.RowKit Go.Proofs.YtimlagmgcfaepaaW.PrintWords Go.Proofs.YtimlagmgcfaepaaW.PrintLast

def fstep (h c : Nat) : Nat := ((h ^^^ c) * 16777619) % 4294967296
def fnv (s : ByteArray) : Nat → Nat
  | 0 => 2166136261
  | i + 1 => fstep (fnv s i) (bt s (i : Int)).toNat
/-- The place of a text. -/
def plc (s : ByteArray) : Nat := (fnv s s.size / 65536) ^^^ (fnv s s.size % 65536)

theorem fnv_lt (s : ByteArray) : ∀ i, fnv s i < 4294967296
  | 0 => by show 2166136261 < 4294967296; decide
  | i + 1 => Nat.mod_lt _ (by decide)
theorem plc_lt (s : ByteArray) : plc s < 65536 := by
  have h := fnv_lt s s.size
  have h1 : fnv s s.size / 65536 < 2 ^ 16 := by omega
  have h2 : fnv s s.size % 65536 < 2 ^ 16 := by omega
  exact Nat.xor_lt_two_pow h1 h2

theorem w64_small {i : Int} (h0 : 0 ≤ i) (h1 : i < 9223372036854775808) : wrap64 i = i := by
  unfold wrap64
  omega

theorem of_step (s : ByteArray) (i : Nat) : ((Go.bits .xor .u32 (fnv s i : Int) ((bt s (i : Int)) % 4294967296)) * 16777619) % 4294967296 = (fnv s (i + 1) : Int) := by
  have hb := bt_range s (i : Int)
  have hf := fnv_lt s i
  rw [u32_xor _ _ (by omega) (by omega) (by omega) (by omega)]
  have e : ((bt s (i : Int)) % 4294967296).toNat = (bt s (i : Int)).toNat := by omega
  rw [e, Int.toNat_natCast]
  show _ = ((fstep (fnv s i) (bt s (i : Int)).toNat : Nat) : Int)
  unfold fstep
  omega

theorem of_end (s : ByteArray) : wrap64 (Go.bits .xor .u32 ((fnv s s.size : Int) / 65536) (Go.bits .and .u32 (fnv s s.size : Int) 65535)) = (plc s : Int) := by
  have hf := fnv_lt s s.size
  have hm : Go.bits .and .u32 (fnv s s.size : Int) 65535 = ((fnv s s.size % 65536 : Nat) : Int) := by
    rw [u32_and _ _ (by omega) (by omega) (by omega) (by omega), Int.toNat_natCast]
    have e : (65535 : Int).toNat = 2 ^ 16 - 1 := rfl
    rw [e, Nat.and_two_pow_sub_one_eq_mod]
  rw [hm]
  have hd : (fnv s s.size : Int) / 65536 = ((fnv s s.size / 65536 : Nat) : Int) := by omega
  rw [hd, u32_xor_nat _ _ (by omega) (by omega)]
  have := plc_lt s
  exact w64_small (by omega) (by show ((plc s : Nat) : Int) < _; omega)

theorem of_loop (s : ByteArray) (hn : s.size ≤ 140737488351232) (d : Nat) : ∀ i : Nat, i + d = s.size → Ev (fun k => place_Of.l0 k s (fnv s i : Int) (s.size : Int) (i : Int)) (plc s : Int) := by
  induction d with
  | zero =>
    intro i hi
    have e : i = s.size := by omega
    subst e
    refine Ev.step (f := fun _ => some (plc s : Int)) (fun k => ?_) (Ev.now _)
    simp only [place_Of.l0]
    rw [if_neg (by omega), of_end]
  | succ d ih =>
    intro i hi
    refine Ev.step (fun k => ?_) (ih (i + 1) (by omega))
    simp only [place_Of.l0]
    rw [if_pos (by omega), if_pos (by omega), if_pos (by omega), of_step, w64_small (by omega) (by omega)]
    rfl
theorem of_ev (s : ByteArray) (hn : s.size ≤ 140737488351232) : Ev (fun k => place_Of.f k s) (plc s : Int) := of_loop s hn s.size 0 (by omega)

end Go.Proofs.Ytimlagmgcfaepaa.P
