/- racewayref26.itself and racewayref26.Escape, by hand, in the print's own form. No conditions. -/
import Derived.Test.YtjampnopogdceaaDoorGPlain
import Derived.Test.YtjampnopogdceaaDoorGEsc
namespace Go.Proofs.YtjampnopogdceaaDoor.P
open Go.RowKit Go.Lib Go.Shelf Go.Proofs.YtjampnopogdceaaDoorW.PrintWords Go.Proofs.YtjampnopogdceaaDoorW.PrintLast Go.Proofs.YtjampnopogdceaaDoorW.PrintMore
set_option linter.unusedVariables false
set_option linter.unusedSimpArgs false

theorem plain_f (c : UInt8) : racewayref26_plain.f (c.toNat : Int) = some (decide (0 ≤ indexByte plainL c)) :=
  byteAll (p := fun c => racewayref26_plain.f (c.toNat : Int) = some (decide (0 ≤ indexByte plainL c))) (by decide +kernel) c
theorem plainC (c : UInt8) (w : World) : Calls Tryd.prog 32 #[.int .u8 (c.toNat : Int)] w fun e w' => e = .returned (.bool (decide (0 ≤ indexByte plainL c))) ∧ Drawn0 w w' :=
  racewayref26_plain.calls _ _ w (plain_f c)
def racewayref26_itself.f (a0 : Int) : Option Bool := if 0 ≤ a0 ∧ a0 ≤ 255 then some (decide (0 ≤ indexByte letL a0.toNat.toUInt8)) else none
def othersL : L8 := [42, 40, 41, 39, 33, 47, 58, 64, 36, 44, 59]
def oth (i : Nat) : UInt8 := othersL.getD i 0
theorem let_split (c : UInt8) : decide (0 ≤ indexByte letL c) = (othersL.any (· == c) || decide (0 ≤ indexByte plainL c)) :=
  byteAll (p := fun c => decide (0 ≤ indexByte letL c) = (othersL.any (· == c) || decide (0 ≤ indexByte plainL c))) (by decide +kernel) c
theorem others_at (i : Nat) (h : i < 11) : ((⟨#[42, 40, 41, 39, 33, 47, 58, 64, 36, 44, 59]⟩ : ByteArray)[i]'h) = oth i := by
  have : ∀ i, (h : i < 11) → ((⟨#[42, 40, 41, 39, 33, 47, 58, 64, 36, 44, 59]⟩ : ByteArray)[i]'h) = oth i := by decide
  exact this i h
theorem others_any (c : UInt8) (i : Nat) (h : i < 11) (e : oth i = c) : othersL.any (· == c) = true := by
  rw [List.any_eq_true]
  refine ⟨oth i, ?_, by rw [e]; simp⟩
  have : ∀ i, i < 11 → oth i ∈ othersL := by decide
  exact this i h
theorem others_none (c : UInt8) (h : ∀ j, j < 11 → oth j ≠ c) : othersL.any (· == c) = false := by
  rw [List.any_eq_false]
  intro x hx
  have : ∀ x ∈ othersL, ∃ j, j < 11 ∧ oth j = x := by decide
  obtain ⟨j, hj, rfl⟩ := this x hx
  simpa using h j hj

theorem drawn_trans {a b c : World} (h : Drawn0 a b) (k : Drawn0 b c) : Drawn0 a c := by
  obtain ⟨n, rfl⟩ := k.1
  exact h.step n
set_option maxHeartbeats 2000000 in
set_option maxRecDepth 100000 in
theorem itselfC (c : UInt8) (w : World) : Calls Tryd.prog 30 #[.int .u8 (c.toNat : Int)] w fun e w' => e = .returned (.bool (decide (0 ≤ indexByte letL c))) ∧ Drawn0 w w' := by
  have HP := Aside0.mk (plainC c)
  generalize hR : decide (0 ≤ indexByte letL c) = R
  have HR := Aside0.mk ((let_split c).symm.trans hR)
  clear hR
  generalize hpl : decide (0 ≤ indexByte plainL c) = pl at HP HR
  clear hpl
  go_enter Tryd.func30, Tryd.ntmps30
  go_wp2
  go_loopg [4] 11 (fun kq v4 w' => ∃ i : Nat, v4 = .int .i64 i ∧ i ≤ 11 ∧ 11 - i ≤ kq ∧ Aside0 (∀ j, j < i → oth j ≠ c) ∧ Aside0 (Drawn0 w w'))
  case atStart => exact ⟨0, rfl, Nat.zero_le _, by omega, ⟨fun j h => absurd h (Nat.not_lt_zero _)⟩, ⟨Drawn0.refl _⟩⟩
  case round =>
    obtain ⟨i, rfl, hi, hg, HN, HD⟩ := hrel
    by_cases hlt : i < 11
    · have i1 : (i : Int) < 11 := by omega
      have i0 : (0 : Int) ≤ (i : Int) := by omega
      have hw1 : wrap64 ((i : Int) + 1) = (i : Int) + 1 := by unfold wrap64; omega
      have ho := others_at i hlt
      by_cases he : oth i = c
      · have hb : (((oth i).toNat : Int) == (c.toNat : Int)) = true := by rw [he]; simp
        have hR : R = true := by rw [← HR.out, others_any c i hlt he]; rfl
        subst hR
        clear HR he
        go_wp2
        go_ret
        exact ⟨rfl, HD.out⟩
      · have hb : (((oth i).toNat : Int) == (c.toNat : Int)) = false := by
          simp only [beq_eq_false_iff_ne, ne_eq]
          intro h
          exact he (UInt8.toNat_inj.1 (by omega))
        have HN2 := Aside0.mk (show ∀ j, j < i + 1 → oth j ≠ c from fun j hj => by
          rcases Nat.lt_or_ge j i with h | h
          · exact HN.out j h
          · rw [show j = i by omega]; exact he)
        clear he HN
        go_wp2
        go_roundg (11 - (i + 1))
        case measure => omega
        case rel => exact ⟨i + 1, by go_num, by omega, Nat.le_refl _, HN2, HD⟩
    · obtain rfl : i = 11 := by omega
      have hR : pl = R := by rw [← HR.out, others_none c HN.out]; rfl
      subst hR
      clear HR HN hlt
      go_wp2_with (first | (go_at_call 32; (with_reducible refine (HP.out _).mono ?_); rintro e w2 ⟨rfl, hd⟩; have D2 := Aside0.mk (drawn_trans HD.out hd); clear hd))
      go_ret
      exact ⟨rfl, D2.out⟩
theorem racewayref26_itself.calls (a0 : Int) (r : Bool) (w : World) (h : racewayref26_itself.f a0 = some r) : Calls Tryd.prog 30 #[.int .u8 a0] w fun e w' => e = .returned (.bool r) ∧ Drawn0 w w' := by
  unfold racewayref26_itself.f at h
  split at h
  case isFalse => cases h
  rename_i hb
  obtain rfl := Option.some.inj h
  obtain ⟨n, rfl⟩ : ∃ n : Nat, a0 = n := ⟨a0.toNat, by omega⟩
  have e : ((n : Int).toNat.toUInt8).toNat = n := by simp; omega
  have := itselfC ((n : Int).toNat.toUInt8) w
  rw [e] at this
  exact this
def racewayref26_Escape.f (a0 : ByteArray) : Option ByteArray := if a0.size ≤ 1000000 then some (ofL (esc a0.data.toList)) else none
theorem escOrd (c : UInt8) : escB c = if decide (0 ≤ indexByte plainL c) = true then [c] else if c = 32 then [43] else [37, lg (c.toNat / 16), lg (c.toNat % 16)] :=
  byteAll (p := fun c => escB c = if decide (0 ≤ indexByte plainL c) = true then [c] else if c = 32 then [43] else [37, lg (c.toNat / 16), lg (c.toNat % 16)]) (by decide +kernel) c
theorem app_of (a b : L8) : ofL a ++ ofL b = ofL (a ++ b) := by
  apply ByteArray.ext
  rw [ByteArray.data_append]
  simp [ofL]
theorem ext_one (s : ByteArray) (i : Nat) (h : i < s.size) : s.extract i (i + 1) = ofL [s[i]'h] := by
  have e : (s.extract i (i + 1)).data.toList = [s[i]'h] := by
    rw [Lib.extract_data]
    have h2 : i < s.data.toList.length := by rw [size_list]; exact h
    rw [List.drop_eq_getElem_cons h2, show i + 1 - i = 1 by omega]
    simp [byte_at s i h]
  rw [← Lib.mk_data (s.extract i (i + 1)), e]; rfl

set_option maxHeartbeats 4000000 in
set_option maxRecDepth 100000 in
theorem racewayref26_Escape.calls (a0 : ByteArray) (r : ByteArray) (w : World) (h : racewayref26_Escape.f a0 = some r) : Calls Tryd.prog 12 #[.string a0] w fun e w' => e = .returned (.string r) ∧ Drawn0 w w' := by
  unfold racewayref26_Escape.f at h
  split at h
  case isFalse => cases h
  rename_i hs
  obtain rfl := Option.some.inj h
  clear h
  have HS := Aside0.mk hs
  clear hs
  go_enter Tryd.func12, Tryd.ntmps12
  go_wp2
  go_loopg [3, 4] a0.size (fun kq v3 v4 w' => ∃ (i : Nat) (ob : ByteArray), v3 = .string ob ∧ v4 = .int .i64 i ∧ i ≤ a0.size ∧ a0.size - i ≤ kq ∧ Aside0 (ob = ofL (esc (a0.data.toList.take i))) ∧ Aside0 (Drawn0 w w'))
  case atStart => exact ⟨0, ofL [], rfl, rfl, Nat.zero_le _, by omega, ⟨by rw [List.take_zero]; rfl⟩, ⟨Drawn0.refl _⟩⟩
  case round =>
    obtain ⟨i, ob, rfl, rfl, hi, hg, HO, HD⟩ := hrel
    by_cases hlt : i < a0.size
    · have i0 : (0 : Int) ≤ (i : Int) := by omega
      have i1 : (i : Int) < (a0.size : Int) := by omega
      have hw1 : wrap64 ((i : Int) + 1) = (i : Int) + 1 := by have := HS.out; unfold wrap64; omega
      have hob : ob.size ≤ 3 * a0.size := by
        rw [HO.out, ← size_list, ofL_list]
        have h1 := esc_le (a0.data.toList.take i)
        have h2 : (a0.data.toList.take i).length ≤ a0.size := by rw [List.length_take, size_list]; exact Nat.min_le_right _ _
        omega
      have q1 : ob.size + 1 ≤ 9223372036854775807 := by have := HS.out; omega
      have q2 : ob.size + 1 + 1 ≤ 9223372036854775807 := by have := HS.out; omega
      have q3 : ob.size + 1 + 1 + 1 ≤ 9223372036854775807 := by have := HS.out; omega
      have HE1 := Aside0.mk (esc_take a0.data.toList i (by rw [size_list]; exact hlt))
      have HE2 := Aside0.mk (byte_at a0 i hlt)
      have HE3 := Aside0.mk (escOrd (a0[i]'hlt))
      have HX := Aside0.mk (ext_one a0 i hlt)
      have hxs : (a0.extract i (i + 1)).size = 1 := by rw [HX.out, ← size_list, ofL_list]; rfl
      clear hob
      have HP := Aside0.mk (plainC (a0[i]'hlt))
      cases hpl : decide (0 ≤ indexByte plainL (a0[i]'hlt)) with
      | true =>
        rw [hpl] at HP HE3
        clear hpl
        have g1 : (i : Int) + 1 ≤ (a0.size : Int) := by omega
        have g2 : (i : Int) ≤ (i : Int) + 1 := by omega
        have g3 : ((i : Int) + 1).toNat = i + 1 := by omega
        go_wp2_with (first | (go_at_call 32; (with_reducible refine (HP.out _).mono ?_); rintro e w2 ⟨rfl, hd⟩; have D2 := Aside0.mk (drawn_trans HD.out hd); clear hd))
        have hE : ob ++ a0.extract i (i + 1) = ofL (esc (a0.data.toList.take (i + 1))) := by
          rw [HO.out, HX.out, app_of, HE1.out, HE2.out, HE3.out]; rfl
        have HE := Aside0.mk hE
        clear hE
        go_roundg (a0.size - (i + 1))
        case measure => clear q1 q2 q3 hw1; omega
        case rel => exact ⟨i + 1, _, rfl, by first | rfl | (rw [hw1]; rfl), hlt, Nat.le_refl _, HE, D2⟩
      | false =>
        rw [hpl] at HP HE3
        clear hpl
        by_cases h32 : a0[i]'hlt = 32
        · have hb : (((a0[i]'hlt).toNat : Int) == 32) = true := by rw [h32]; rfl
          have hE : ob ++ (⟨#[43]⟩ : ByteArray) = ofL (esc (a0.data.toList.take (i + 1))) := by
            rw [HO.out, HE1.out, HE2.out, HE3.out, h32, show (⟨#[43]⟩ : ByteArray) = ofL [43] from rfl, app_of]; rfl
          have HE := Aside0.mk hE
          clear hE h32
          go_wp2_with (first | (go_at_call 32; (with_reducible refine (HP.out _).mono ?_); rintro e w2 ⟨rfl, hd⟩; have D2 := Aside0.mk (drawn_trans HD.out hd); clear hd))
          go_roundg (a0.size - (i + 1))
          case measure => clear q1 q2 q3 hw1; omega
          case rel => exact ⟨i + 1, _, rfl, by first | rfl | (rw [hw1]; rfl), hlt, Nat.le_refl _, HE, D2⟩
        · have hb : (((a0[i]'hlt).toNat : Int) == 32) = false := by
            simp only [beq_eq_false_iff_ne, ne_eq]
            intro h
            exact h32 (UInt8.toNat_inj.1 (by show _ = 32; omega))
          have k0 : (0 : Int) ≤ ((a0[i]'hlt).toNat : Int) := by omega
          have HLT := Aside0.mk (a0[i]'hlt).toNat_lt
          have n1 : (9223372036854775807 < ob.size + 1) = False := eq_false (Nat.not_lt.2 q1)
          have n2 : (9223372036854775807 < ob.size + 1 + 1) = False := eq_false (Nat.not_lt.2 q2)
          have n3 : (9223372036854775807 < ob.size + 1 + 1 + 1) = False := eq_false (Nat.not_lt.2 q3)
          obtain ⟨hi_, hhi⟩ : ∃ n, n = (a0[i]'hlt).toNat / 16 := ⟨_, rfl⟩
          obtain ⟨lo_, hlo⟩ : ∃ n, n = (a0[i]'hlt).toNat % 16 := ⟨_, rfl⟩
          have hhi2 : hi_ < 16 := by have := (a0[i]'hlt).toNat_lt; omega
          have hlo2 : lo_ < 16 := by omega
          have v1 : IntKind.u8.wrap (((a0[i]'hlt).toNat : Int) / 16) = (hi_ : Int) := by rw [IntKind.wrap_u8]; omega
          have v2 : IntKind.u8.wrap ((hi_ : Int) + 1) = (hi_ : Int) + 1 := by rw [IntKind.wrap_u8]; omega
          have v3 : (((a0[i]'hlt).toNat : Int)).tmod 16 = (lo_ : Int) := by rw [Int.tmod_eq_emod_of_nonneg (by omega)]; omega
          have v5 : IntKind.u8.wrap ((lo_ : Int) + 1) = (lo_ : Int) + 1 := by rw [IntKind.wrap_u8]; omega
          have z1 : (0 : Int) ≤ (hi_ : Int) := by omega
          have z2 : (hi_ : Int) ≤ (hi_ : Int) + 1 := by omega
          have z3 : (hi_ : Int) + 1 ≤ 16 := by omega
          have z4 : ((hi_ : Int) + 1).toNat = hi_ + 1 := by omega
          have z5 : (0 : Int) ≤ (lo_ : Int) := by omega
          have z6 : (lo_ : Int) ≤ (lo_ : Int) + 1 := by omega
          have z7 : (lo_ : Int) + 1 ≤ 16 := by omega
          have z8 : ((lo_ : Int) + 1).toNat = lo_ + 1 := by omega
          have x1 := ext_one ⟨#[48, 49, 50, 51, 52, 53, 54, 55, 56, 57, 65, 66, 67, 68, 69, 70]⟩ hi_ hhi2
          have x2 := ext_one ⟨#[48, 49, 50, 51, 52, 53, 54, 55, 56, 57, 65, 66, 67, 68, 69, 70]⟩ lo_ hlo2
          rw [lgAt hi_ hhi2] at x1
          rw [lgAt lo_ hlo2] at x2
          have hE : ((ob ++ (⟨#[37]⟩ : ByteArray)) ++ ofL [lg hi_]) ++ ofL [lg lo_] = ofL (esc (a0.data.toList.take (i + 1))) := by
            rw [HO.out, HE1.out, HE2.out, HE3.out, if_neg (by decide), if_neg h32, show (⟨#[37]⟩ : ByteArray) = ofL [37] from rfl, app_of, app_of, app_of, hhi, hlo]
            simp
          have HE := Aside0.mk hE
          have s1 : (ofL [lg hi_]).size = 1 := by rw [← size_list, ofL_list]; rfl
          have s2 : (ofL [lg lo_]).size = 1 := by rw [← size_list, ofL_list]; rfl
          generalize ofL [lg hi_] = b1 at x1 s1 HE
          generalize ofL [lg lo_] = b2 at x2 s2 HE
          clear hE hhi hlo hhi2 hlo2
          have y1 := eq_true q1
          have y2 := eq_true q2
          have y3 := eq_true q3
          clear h32 q1 q2 q3
          go_wp2_with (first | (go_at_call 32; (with_reducible refine (HP.out _).mono ?_); rintro e w2 ⟨rfl, hd⟩; have D2 := Aside0.mk (drawn_trans HD.out hd); clear hd))
          go_quiet (fail)
          go_wp2
          have D3 := Aside0.mk (D2.out.step nq)
          go_roundg (a0.size - (i + 1))
          case measure => clear hw1 v1 v2 v3 v5; omega
          case rel => exact ⟨i + 1, _, rfl, by first | rfl | (rw [hw1]; rfl), hlt, Nat.le_refl _, HE, D3⟩
    · obtain rfl : i = a0.size := by omega
      have hx : a0.data.toList.take a0.size = a0.data.toList := by rw [← size_list]; exact List.take_length
      have hE := HO.out
      rw [hx] at hE
      subst hE
      go_wp2
      go_ret
      exact ⟨rfl, HD.out⟩
end Go.Proofs.YtjampnopogdceaaDoor.P
