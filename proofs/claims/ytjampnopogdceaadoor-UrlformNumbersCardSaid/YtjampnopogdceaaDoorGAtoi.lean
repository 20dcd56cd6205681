/- basic.Atoi, by hand. No conditions. -/
import Derived.Test.YtjampnopogdceaaDoorGEsc
import Derived.Test.YtjampnopogdceaaDoorGLayB
namespace Go.Proofs.YtjampnopogdceaaDoor.P
open Go.RowKit Go.Lib Go.Shelf Go.Proofs.YtjampnopogdceaaDoorW.PrintWords Go.Proofs.YtjampnopogdceaaDoorW.PrintLast Go.Proofs.YtjampnopogdceaaDoorW.PrintMore
set_option linter.unusedVariables false
set_option linter.unusedSimpArgs false

theorem wrapS' {x : Int} (h1 : -9223372036854775808 ≤ x) (h2 : x ≤ 9223372036854775807) : wrap64 x = x := by unfold wrap64; omega
theorem u64S {x : Int} (h1 : 0 ≤ x) (h2 : x ≤ 18446744073709551615) : IntKind.u64.wrap x = x := by rw [IntKind.wrap_u64]; omega
theorem negS (u : Nat) (h : u ≤ 9223372036854775808) : wrap64 (IntKind.u64.wrap (-(u : Int))) = -(u : Int) := by rw [IntKind.wrap_u64]; unfold wrap64; omega
def atoiGo : L8 → Nat → Option Nat
  | [], u => some u
  | c :: r, u => if c.toNat < 48 ∨ 57 < c.toNat then none else atoiGo r (10 * u + (c.toNat - 48))
def atoiE (m : Bool) : Option Nat → Int × Nat
  | none => (0, 5)
  | some u => if m = true ∧ u ≤ 9223372036854775808 then (-(u : Int), 0) else if m = false ∧ u ≤ 9223372036854775807 then ((u : Int), 0) else (0, 5)
def atoiD (d : L8) (minus : Bool) : Int × Nat :=
  if d = [] ∨ 19 < d.length ∨ (d.head? = some 48 ∧ (1 < d.length ∨ minus = true)) then (0, 5) else atoiE minus (atoiGo d 0)
def atoi (l : L8) : Int × Nat := atoiD (trimPrefix l [45]) (decide ((trimPrefix l [45]).length < l.length))
theorem trimC (s : ByteArray) (w : World) : Calls Tryd.prog 47 #[.string s, .string ⟨#[45]⟩] w fun e w' => e = .returned (.string ⟨(trimPrefix s.data.toList [45]).toArray⟩) ∧ w' = w :=
  Any.strings_TrimPrefix Tryd.lays101 s ⟨#[45]⟩ w

set_option maxHeartbeats 4000000 in
set_option maxRecDepth 100000 in
theorem atoiC (s : ByteArray) (w : World) :
    Calls Tryd.prog 35 #[.string s] w fun e w' => e = .returned (.tuple #[.int .i64 (atoi s.data.toList).1, .int .i64 ((atoi s.data.toList).2 : Int)]) ∧ w' = w := by
  have hT := trimC s
  generalize hA : atoi s.data.toList = R
  unfold atoi at hA
  have hdl : (trimPrefix s.data.toList [45]).length = (⟨(trimPrefix s.data.toList [45]).toArray⟩ : ByteArray).size := by rw [← size_list]
  rw [size_list, hdl] at hA
  have hdd : (⟨(trimPrefix s.data.toList [45]).toArray⟩ : ByteArray).data.toList = trimPrefix s.data.toList [45] := by simp
  rw [← hdd] at hA
  generalize (⟨(trimPrefix s.data.toList [45]).toArray⟩ : ByteArray) = d at hT hA hdl hdd
  clear hdl hdd
  have HT := Aside0.mk hT
  generalize hM : decide (d.size < s.size) = m at hA
  have hmi : decide ((d.size : Int) < (s.size : Int)) = m := by rw [← hM]; congr 1; simp
  have HA := Aside0.mk hA
  clear hT hA hM
  by_cases e1 : d.size = 0
  · have hd : d = ⟨#[]⟩ := by
      have hl : d.data.toList = [] := List.eq_nil_of_length_eq_zero (by rw [size_list]; exact e1)
      have := Lib.mk_data d
      rw [hl] at this
      exact this.symm
    subst hd
    have hR : R = (0, 5) := by rw [← HA.out]; unfold atoiD; rw [if_pos (Or.inl rfl)]
    subst hR
    clear HA
    go_enter Tryd.func35, Tryd.ntmps35
    go_wp2_with (first | (go_at_call 47; (with_reducible refine (HT.out _).mono ?_); rintro e w2 ⟨rfl, rfl⟩))
    all_goals (go_ret2; exact ⟨rfl, rfl⟩)
  · have hemp : d.toList.isEmpty = false := by
      rw [Lib.toList_data]
      cases h : d.data.toList with
      | nil => have := size_list d; rw [h] at this; simp at this; omega
      | cons _ _ => rfl
    by_cases e2 : 19 < d.size
    · have hR : R = (0, 5) := by rw [← HA.out]; unfold atoiD; rw [if_pos (Or.inr (Or.inl (by rw [size_list]; exact e2)))]
      subst hR
      clear HA
      have e2i : (19 : Int) < (d.size : Int) := by omega
      go_enter Tryd.func35, Tryd.ntmps35
      go_wp2_with (first | (go_at_call 47; (with_reducible refine (HT.out _).mono ?_); rintro e w2 ⟨rfl, rfl⟩))
      all_goals (go_ret2; exact ⟨rfl, rfl⟩)
    · have e2i : (d.size : Int) ≤ 19 := by omega
      have e0i : (0 : Int) < (d.size : Int) := by omega
      have hz : 0 < d.size := by omega
      have hd0 := drop_at d 0 hz
      rw [List.drop_zero] at hd0
      by_cases hbad : ((d[0]'hz).toNat : Int) = 48 ∧ (1 < d.size ∨ m = true)
      · have hR : R = (0, 5) := by
          rw [← HA.out]; unfold atoiD
          rw [if_pos (Or.inr (Or.inr ⟨by rw [hd0, List.head?_cons]; congr 1; exact UInt8.toNat_inj.1 (by show (d[0]'hz).toNat = 48; omega), by rw [size_list]; exact hbad.2⟩))]
        subst hR
        clear HA hd0
        obtain ⟨hb1, hb2⟩ := hbad
        have hb1b : (((d[0]'hz).toNat : Int) == 48) = true := by rw [hb1]; rfl
        clear hb1
        by_cases e4 : 1 < d.size
        · have e4i : (1 : Int) < (d.size : Int) := by omega
          clear hb2
          go_enter Tryd.func35, Tryd.ntmps35
          go_wp2_with (first | (go_at_call 47; (with_reducible refine (HT.out _).mono ?_); rintro e w2 ⟨rfl, hw⟩; rw [hw]; clear hw))
          all_goals (go_ret2; exact ⟨rfl, rfl⟩)
        · have e4i : (d.size : Int) ≤ 1 := by omega
          have hm : m = true := hb2.resolve_left e4
          subst hm
          have hms : d.size < s.size := by simpa using hmi
          clear hb2
          go_enter Tryd.func35, Tryd.ntmps35
          go_wp2_with (first | (go_at_call 47; (with_reducible refine (HT.out _).mono ?_); rintro e w2 ⟨rfl, hw⟩; rw [hw]; clear hw))
          all_goals (go_ret2; exact ⟨rfl, rfl⟩)
      · have hgood : ¬ (d.data.toList = [] ∨ 19 < d.data.toList.length ∨ (d.data.toList.head? = some 48 ∧ (1 < d.data.toList.length ∨ m = true))) := by
          rintro (h | h | ⟨h1, h2⟩)
          · rw [hd0] at h; cases h
          · rw [size_list] at h; omega
          · rw [hd0, List.head?_cons] at h1
            rw [size_list] at h2
            exact hbad ⟨by rw [Option.some.inj h1]; rfl, h2⟩
        generalize hG : atoiGo d.data.toList 0 = G
        have HG := Aside0.mk hG
        clear hG
        by_cases h0 : ((d[0]'hz).toNat : Int) = 48
        · have e4 : ¬ 1 < d.size := fun h => hbad ⟨h0, Or.inl h⟩
          have hm : m = false := by cases m with | true => exact absurd ⟨h0, Or.inr rfl⟩ hbad | false => rfl
          subst hm
          have e4i : (d.size : Int) ≤ 1 := by omega
          have hms : ¬ d.size < s.size := by simpa using hmi
          have hb1b : (((d[0]'hz).toNat : Int) == 48) = true := by rw [h0]; rfl
          clear h0 hbad
          have HR : Aside0 (atoiE false G = R) := by
            refine ⟨?_⟩
            rw [← HA.out, ← HG.out]
            unfold atoiD
            rw [if_neg hgood]
          clear HA hgood hd0
          go_enter Tryd.func35, Tryd.ntmps35
          go_wp2_with (first | (go_at_call 47; (with_reducible refine (HT.out _).mono ?_); rintro e w2 ⟨rfl, hw⟩; rw [hw]; clear hw))
          go_loopg [6, 37] d.size (fun kq v6 v37 w' => ∃ (i u : Nat), v37 = .int .i64 i ∧ v6 = .int .u64 u ∧ i ≤ d.size ∧ d.size - i ≤ kq ∧ Aside0 (atoiGo (d.data.toList.drop i) u = G) ∧ Aside0 (u < 10 ^ i) ∧ Aside0 (w' = w))
          case atStart => exact ⟨0, 0, rfl, rfl, Nat.zero_le _, by omega, HG, ⟨by decide⟩, ⟨rfl⟩⟩
          case round =>
            obtain ⟨i, u, rfl, rfl, hi, hg, HE, HU, HW⟩ := hrel
            obtain rfl := HW.out
            clear HW
            by_cases hlt : i < d.size
            · have hE := HE.out
              rw [drop_at d i hlt, atoiGo] at hE
              have hu : u < 1000000000000000000 := Nat.lt_of_lt_of_le HU.out (Nat.pow_le_pow_right (by decide) (show i ≤ 18 by omega))
              have hw1 : wrap64 ((i : Int) + 1) = (i : Int) + 1 := wrapS' (by omega) (by omega)
              have hcl := (d[i]'hlt).toNat_lt
              by_cases h48 : (d[i]'hlt).toNat < 48
              · have c48 : ((d[i]'hlt).toNat : Int) < 48 := by omega
                rw [if_pos (Or.inl h48)] at hE
                have hR : R = (0, 5) := by rw [← HR.out, ← hE]; rfl
                subst hR
                clear HR hE hu hcl
                go_wp2
                go_ret2
                exact ⟨rfl, rfl⟩
              · have c48 : (48 : Int) ≤ ((d[i]'hlt).toNat : Int) := by omega
                by_cases h57 : 57 < (d[i]'hlt).toNat
                · have c57 : (57 : Int) < ((d[i]'hlt).toNat : Int) := by omega
                  rw [if_pos (Or.inr h57)] at hE
                  have hR : R = (0, 5) := by rw [← HR.out, ← hE]; rfl
                  subst hR
                  clear HR hE hu hcl
                  go_wp2
                  go_ret2
                  exact ⟨rfl, rfl⟩
                · have c57 : ((d[i]'hlt).toNat : Int) ≤ 57 := by omega
                  rw [if_neg (by omega)] at hE
                  have g0 : ((d[i]'hlt).toNat : Int) - 48 = (((d[i]'hlt).toNat - 48 : Nat) : Int) := by omega
                  have g1 : (((d[i]'hlt).toNat : Int) - 48) % 256 = (((d[i]'hlt).toNat - 48 : Nat) : Int) := by omega
                  have g2 : IntKind.u64.wrap (10 * (u : Int)) = 10 * (u : Int) := u64S (by omega) (by omega)
                  have g3 : IntKind.u64.wrap (10 * (u : Int) + (((d[i]'hlt).toNat - 48 : Nat) : Int)) = ((10 * u + ((d[i]'hlt).toNat - 48) : Nat) : Int) := by rw [u64S (by omega) (by omega)]; rfl
                  have g4 : IntKind.u64.wrap (((d[i]'hlt).toNat - 48 : Nat) : Int) = (((d[i]'hlt).toNat - 48 : Nat) : Int) := u64S (by omega) (by omega)
                  have G5 := Aside0.mk (show IntKind.u64.wrap (10 * (u : Int) + (((d[i]'hlt).toNat : Int) - 48)) = ((10 * u + ((d[i]'hlt).toNat - 48) : Nat) : Int) by rw [u64S (by omega) (by omega)]; omega)
                  have HE2 := Aside0.mk hE
                  have HU2 := Aside0.mk (show 10 * u + ((d[i]'hlt).toNat - 48) < 10 ^ (i + 1) by rw [Nat.pow_succ]; have := HU.out; omega)
                  clear hE HE hu hcl HU h48 h57 g0
                  go_wp2
                  go_roundg (d.size - (i + 1))
                  case measure => omega
                  case rel => exact ⟨i + 1, 10 * u + ((d[i]'hlt).toNat - 48), by go_num, by rw [G5.out], hlt, Nat.le_refl _, HE2, HU2, ⟨rfl⟩⟩
            · obtain rfl : i = d.size := by omega
              have hE := HE.out
              rw [List.drop_eq_nil_of_le (by rw [size_list]; exact Nat.le_refl _), atoiGo] at hE
              have HUU := Aside0.mk (show u < 10000000000000000000 from Nat.lt_of_lt_of_le HU.out (Nat.pow_le_pow_right (by decide) (show d.size ≤ 19 by omega)))
              have hR := HR.out
              rw [← hE] at hR
              subst hR
              clear HR hE HE HU
              by_cases hk : u ≤ 9223372036854775807
              · have hki : (u : Int) ≤ 9223372036854775807 := by omega
                have gN : wrap64 (u : Int) = (u : Int) := wrapS' (by omega) hki
                have HX := Aside0.mk (show atoiE false (some u) = ((u : Int), 0) by simp only [atoiE]; rw [if_neg (fun h => by cases h.1), if_pos ⟨by first | trivial | rfl, hk⟩])
                clear hk
                go_wp2
                go_ret2
                rw [HX.out]
                exact ⟨by first | rfl | (simp only [gN]; rfl) | (rw [← gN]; rfl), rfl⟩
              · have hki : (9223372036854775807 : Int) < (u : Int) := by omega
                have HX := Aside0.mk (show atoiE false (some u) = (0, 5) by simp only [atoiE]; rw [if_neg (fun h => by cases h.1), if_neg (fun h => hk h.2)])
                clear hk
                go_wp2
                go_ret2
                rw [HX.out]
                exact ⟨rfl, rfl⟩
        · have hb1b : (((d[0]'hz).toNat : Int) == 48) = false := by simpa using h0
          clear h0 hbad
          cases m with
          | true =>
            have hms : d.size < s.size := by simpa using hmi
            have HR : Aside0 (atoiE true G = R) := by
              refine ⟨?_⟩
              rw [← HA.out, ← HG.out]
              unfold atoiD
              rw [if_neg hgood]
            clear HA hgood hd0
            go_enter Tryd.func35, Tryd.ntmps35
            go_wp2_with (first | (go_at_call 47; (with_reducible refine (HT.out _).mono ?_); rintro e w2 ⟨rfl, hw⟩; rw [hw]; clear hw))
            go_loopg [6, 37] d.size (fun kq v6 v37 w' => ∃ (i u : Nat), v37 = .int .i64 i ∧ v6 = .int .u64 u ∧ i ≤ d.size ∧ d.size - i ≤ kq ∧ Aside0 (atoiGo (d.data.toList.drop i) u = G) ∧ Aside0 (u < 10 ^ i) ∧ Aside0 (w' = w))
            case atStart => exact ⟨0, 0, rfl, rfl, Nat.zero_le _, by omega, HG, ⟨by decide⟩, ⟨rfl⟩⟩
            case round =>
              obtain ⟨i, u, rfl, rfl, hi, hg, HE, HU, HW⟩ := hrel
              obtain rfl := HW.out
              clear HW
              by_cases hlt : i < d.size
              · have hE := HE.out
                rw [drop_at d i hlt, atoiGo] at hE
                have hu : u < 1000000000000000000 := Nat.lt_of_lt_of_le HU.out (Nat.pow_le_pow_right (by decide) (show i ≤ 18 by omega))
                have hw1 : wrap64 ((i : Int) + 1) = (i : Int) + 1 := wrapS' (by omega) (by omega)
                have hcl := (d[i]'hlt).toNat_lt
                by_cases h48 : (d[i]'hlt).toNat < 48
                · have c48 : ((d[i]'hlt).toNat : Int) < 48 := by omega
                  rw [if_pos (Or.inl h48)] at hE
                  have hR : R = (0, 5) := by rw [← HR.out, ← hE]; rfl
                  subst hR
                  clear HR hE hu hcl
                  go_wp2
                  go_ret2
                  exact ⟨rfl, rfl⟩
                · have c48 : (48 : Int) ≤ ((d[i]'hlt).toNat : Int) := by omega
                  by_cases h57 : 57 < (d[i]'hlt).toNat
                  · have c57 : (57 : Int) < ((d[i]'hlt).toNat : Int) := by omega
                    rw [if_pos (Or.inr h57)] at hE
                    have hR : R = (0, 5) := by rw [← HR.out, ← hE]; rfl
                    subst hR
                    clear HR hE hu hcl
                    go_wp2
                    go_ret2
                    exact ⟨rfl, rfl⟩
                  · have c57 : ((d[i]'hlt).toNat : Int) ≤ 57 := by omega
                    rw [if_neg (by omega)] at hE
                    have g0 : ((d[i]'hlt).toNat : Int) - 48 = (((d[i]'hlt).toNat - 48 : Nat) : Int) := by omega
                    have g1 : (((d[i]'hlt).toNat : Int) - 48) % 256 = (((d[i]'hlt).toNat - 48 : Nat) : Int) := by omega
                    have g2 : IntKind.u64.wrap (10 * (u : Int)) = 10 * (u : Int) := u64S (by omega) (by omega)
                    have g3 : IntKind.u64.wrap (10 * (u : Int) + (((d[i]'hlt).toNat - 48 : Nat) : Int)) = ((10 * u + ((d[i]'hlt).toNat - 48) : Nat) : Int) := by rw [u64S (by omega) (by omega)]; rfl
                    have g4 : IntKind.u64.wrap (((d[i]'hlt).toNat - 48 : Nat) : Int) = (((d[i]'hlt).toNat - 48 : Nat) : Int) := u64S (by omega) (by omega)
                    have G5 := Aside0.mk (show IntKind.u64.wrap (10 * (u : Int) + (((d[i]'hlt).toNat : Int) - 48)) = ((10 * u + ((d[i]'hlt).toNat - 48) : Nat) : Int) by rw [u64S (by omega) (by omega)]; omega)
                    have HE2 := Aside0.mk hE
                    have HU2 := Aside0.mk (show 10 * u + ((d[i]'hlt).toNat - 48) < 10 ^ (i + 1) by rw [Nat.pow_succ]; have := HU.out; omega)
                    clear hE HE hu hcl HU h48 h57 g0
                    go_wp2
                    go_roundg (d.size - (i + 1))
                    case measure => omega
                    case rel => exact ⟨i + 1, 10 * u + ((d[i]'hlt).toNat - 48), by go_num, by rw [G5.out], hlt, Nat.le_refl _, HE2, HU2, ⟨rfl⟩⟩
              · obtain rfl : i = d.size := by omega
                have hE := HE.out
                rw [List.drop_eq_nil_of_le (by rw [size_list]; exact Nat.le_refl _), atoiGo] at hE
                have HUU := Aside0.mk (show u < 10000000000000000000 from Nat.lt_of_lt_of_le HU.out (Nat.pow_le_pow_right (by decide) (show d.size ≤ 19 by omega)))
                have hR := HR.out
                rw [← hE] at hR
                subst hR
                clear HR hE HE HU
                by_cases hk : u ≤ 9223372036854775808
                · have hki : (u : Int) ≤ 9223372036854775808 := by omega
                  have gN : wrap64 (IntKind.u64.wrap (-(u : Int))) = -(u : Int) := negS u hk
                  have HX := Aside0.mk (show atoiE true (some u) = (-(u : Int), 0) by simp only [atoiE]; rw [if_pos ⟨by first | trivial | rfl, hk⟩])
                  clear hk
                  go_wp2
                  go_ret2
                  rw [HX.out]
                  exact ⟨by first | rfl | (simp only [gN]; rfl) | (rw [← gN]; rfl), rfl⟩
                · have hki : (9223372036854775808 : Int) < (u : Int) := by omega
                  have HX := Aside0.mk (show atoiE true (some u) = (0, 5) by simp only [atoiE]; rw [if_neg (fun h => hk h.2), if_neg (fun h => by cases h.1)])
                  clear hk
                  go_wp2
                  go_ret2
                  rw [HX.out]
                  exact ⟨rfl, rfl⟩
          | false =>
            have hms : ¬ d.size < s.size := by simpa using hmi
            have HR : Aside0 (atoiE false G = R) := by
              refine ⟨?_⟩
              rw [← HA.out, ← HG.out]
              unfold atoiD
              rw [if_neg hgood]
            clear HA hgood hd0
            go_enter Tryd.func35, Tryd.ntmps35
            go_wp2_with (first | (go_at_call 47; (with_reducible refine (HT.out _).mono ?_); rintro e w2 ⟨rfl, hw⟩; rw [hw]; clear hw))
            go_loopg [6, 37] d.size (fun kq v6 v37 w' => ∃ (i u : Nat), v37 = .int .i64 i ∧ v6 = .int .u64 u ∧ i ≤ d.size ∧ d.size - i ≤ kq ∧ Aside0 (atoiGo (d.data.toList.drop i) u = G) ∧ Aside0 (u < 10 ^ i) ∧ Aside0 (w' = w))
            case atStart => exact ⟨0, 0, rfl, rfl, Nat.zero_le _, by omega, HG, ⟨by decide⟩, ⟨rfl⟩⟩
            case round =>
              obtain ⟨i, u, rfl, rfl, hi, hg, HE, HU, HW⟩ := hrel
              obtain rfl := HW.out
              clear HW
              by_cases hlt : i < d.size
              · have hE := HE.out
                rw [drop_at d i hlt, atoiGo] at hE
                have hu : u < 1000000000000000000 := Nat.lt_of_lt_of_le HU.out (Nat.pow_le_pow_right (by decide) (show i ≤ 18 by omega))
                have hw1 : wrap64 ((i : Int) + 1) = (i : Int) + 1 := wrapS' (by omega) (by omega)
                have hcl := (d[i]'hlt).toNat_lt
                by_cases h48 : (d[i]'hlt).toNat < 48
                · have c48 : ((d[i]'hlt).toNat : Int) < 48 := by omega
                  rw [if_pos (Or.inl h48)] at hE
                  have hR : R = (0, 5) := by rw [← HR.out, ← hE]; rfl
                  subst hR
                  clear HR hE hu hcl
                  go_wp2
                  go_ret2
                  exact ⟨rfl, rfl⟩
                · have c48 : (48 : Int) ≤ ((d[i]'hlt).toNat : Int) := by omega
                  by_cases h57 : 57 < (d[i]'hlt).toNat
                  · have c57 : (57 : Int) < ((d[i]'hlt).toNat : Int) := by omega
                    rw [if_pos (Or.inr h57)] at hE
                    have hR : R = (0, 5) := by rw [← HR.out, ← hE]; rfl
                    subst hR
                    clear HR hE hu hcl
                    go_wp2
                    go_ret2
                    exact ⟨rfl, rfl⟩
                  · have c57 : ((d[i]'hlt).toNat : Int) ≤ 57 := by omega
                    rw [if_neg (by omega)] at hE
                    have g0 : ((d[i]'hlt).toNat : Int) - 48 = (((d[i]'hlt).toNat - 48 : Nat) : Int) := by omega
                    have g1 : (((d[i]'hlt).toNat : Int) - 48) % 256 = (((d[i]'hlt).toNat - 48 : Nat) : Int) := by omega
                    have g2 : IntKind.u64.wrap (10 * (u : Int)) = 10 * (u : Int) := u64S (by omega) (by omega)
                    have g3 : IntKind.u64.wrap (10 * (u : Int) + (((d[i]'hlt).toNat - 48 : Nat) : Int)) = ((10 * u + ((d[i]'hlt).toNat - 48) : Nat) : Int) := by rw [u64S (by omega) (by omega)]; rfl
                    have g4 : IntKind.u64.wrap (((d[i]'hlt).toNat - 48 : Nat) : Int) = (((d[i]'hlt).toNat - 48 : Nat) : Int) := u64S (by omega) (by omega)
                    have G5 := Aside0.mk (show IntKind.u64.wrap (10 * (u : Int) + (((d[i]'hlt).toNat : Int) - 48)) = ((10 * u + ((d[i]'hlt).toNat - 48) : Nat) : Int) by rw [u64S (by omega) (by omega)]; omega)
                    have HE2 := Aside0.mk hE
                    have HU2 := Aside0.mk (show 10 * u + ((d[i]'hlt).toNat - 48) < 10 ^ (i + 1) by rw [Nat.pow_succ]; have := HU.out; omega)
                    clear hE HE hu hcl HU h48 h57 g0
                    go_wp2
                    go_roundg (d.size - (i + 1))
                    case measure => omega
                    case rel => exact ⟨i + 1, 10 * u + ((d[i]'hlt).toNat - 48), by go_num, by rw [G5.out], hlt, Nat.le_refl _, HE2, HU2, ⟨rfl⟩⟩
              · obtain rfl : i = d.size := by omega
                have hE := HE.out
                rw [List.drop_eq_nil_of_le (by rw [size_list]; exact Nat.le_refl _), atoiGo] at hE
                have HUU := Aside0.mk (show u < 10000000000000000000 from Nat.lt_of_lt_of_le HU.out (Nat.pow_le_pow_right (by decide) (show d.size ≤ 19 by omega)))
                have hR := HR.out
                rw [← hE] at hR
                subst hR
                clear HR hE HE HU
                by_cases hk : u ≤ 9223372036854775807
                · have hki : (u : Int) ≤ 9223372036854775807 := by omega
                  have gN : wrap64 (u : Int) = (u : Int) := wrapS' (by omega) hki
                  have HX := Aside0.mk (show atoiE false (some u) = ((u : Int), 0) by simp only [atoiE]; rw [if_neg (fun h => by cases h.1), if_pos ⟨by first | trivial | rfl, hk⟩])
                  clear hk
                  go_wp2
                  go_ret2
                  rw [HX.out]
                  exact ⟨by first | rfl | (simp only [gN]; rfl) | (rw [← gN]; rfl), rfl⟩
                · have hki : (9223372036854775807 : Int) < (u : Int) := by omega
                  have HX := Aside0.mk (show atoiE false (some u) = (0, 5) by simp only [atoiE]; rw [if_neg (fun h => by cases h.1), if_neg (fun h => hk h.2)])
                  clear hk
                  go_wp2
                  go_ret2
                  rw [HX.out]
                  exact ⟨rfl, rfl⟩
end Go.Proofs.YtjampnopogdceaaDoor.P
