-- Written by the session's own program (wip/tools/myprint.py), over the kit's printer. Lean checks it.
import Derived.Test.YtjampnopogdceaaDoorP0
import Derived.Test.YtjampnopogdceaaDoorGRef
namespace Go.Proofs.YtjampnopogdceaaDoor.P
open Go.RowKit Go.Proofs.YtjampnopogdceaaDoorW.PrintWords Go.Proofs.YtjampnopogdceaaDoorW.PrintLast Go.Proofs.YtjampnopogdceaaDoorW.PrintMore
attribute [local go_sem] max2_int min2_int max_two min_two max_three min_three max_four min_four   -- for this text's walks alone
set_option linter.unusedVariables false
set_option linter.unusedSimpArgs false

theorem sz_61_19 : (⟨#[61]⟩ : ByteArray).size = 1 := rfl
theorem sz_38_19 : (⟨#[38]⟩ : ByteArray).size = 1 := rfl
/-! ### racewayref26_Print: function 25 -/
def racewayref26_Print.l0 : Nat → List (S45) → ByteArray → Int → Option (ByteArray × Int)
  | 0, _, _, _ => none
  | k + 1, x0, x4, x5 => if x5 < (x0.length : Int) then (if x5 > 0 then (if x4.size + 1 ≤ 9223372036854775807 then (if 0 ≤ x5 then ((racewayref26_Escape.f ((rd_T45 x0 x5).f0)).bind fun t244 => (if (x4 ++ (⟨#[38]⟩ : ByteArray)).size + t244.size ≤ 9223372036854775807 then (if ((x4 ++ (⟨#[38]⟩ : ByteArray)) ++ t244).size + 1 ≤ 9223372036854775807 then ((racewayref26_Escape.f ((rd_T45 x0 x5).f1)).bind fun t246 => (if (((x4 ++ (⟨#[38]⟩ : ByteArray)) ++ t244) ++ (⟨#[61]⟩ : ByteArray)).size + t246.size ≤ 9223372036854775807 then (racewayref26_Print.l0 k x0 ((((x4 ++ (⟨#[38]⟩ : ByteArray)) ++ t244) ++ (⟨#[61]⟩ : ByteArray)) ++ t246) (wrap64 (x5 + 1))) else (none))) else (none)) else (none))) else (none)) else (none)) else (if 0 ≤ x5 then ((racewayref26_Escape.f ((rd_T45 x0 x5).f0)).bind fun t248 => (if x4.size + t248.size ≤ 9223372036854775807 then (if (x4 ++ t248).size + 1 ≤ 9223372036854775807 then ((racewayref26_Escape.f ((rd_T45 x0 x5).f1)).bind fun t250 => (if ((x4 ++ t248) ++ (⟨#[61]⟩ : ByteArray)).size + t250.size ≤ 9223372036854775807 then (racewayref26_Print.l0 k x0 (((x4 ++ t248) ++ (⟨#[61]⟩ : ByteArray)) ++ t250) (wrap64 (x5 + 1))) else (none))) else (none)) else (none))) else (none))) else (some (x4, 0))
def racewayref26_Print.f (k : Nat) (l0 : List (S45)) : Option (ByteArray × Int) := if (l0.length : Int) > 1024 then (some ((⟨#[]⟩ : ByteArray), 7)) else (racewayref26_Print.l0 k l0 (⟨#[]⟩ : ByteArray) 0)
theorem racewayref26_Print.mono_l : ∀ k, (∀ y0 y1 y2, LeO (racewayref26_Print.l0 k y0 y1 y2) (racewayref26_Print.l0 (k + 1) y0 y1 y2))
  | 0 => fun _ _ _ r h => by simp [racewayref26_Print.l0] at h
  | k + 1 => by
    have ih0 := racewayref26_Print.mono_l k
    · intro y0 y1 y2
      unfold racewayref26_Print.l0
      repeat' first
      | (with_reducible exact ih0 _ _ _)
      | (with_reducible exact LeO.refl _)
      | (with_reducible exact LeO.none _)
      | (with_reducible refine LeO.ite ?_ ?_)
      | (with_reducible refine LeO.bind ?_ (fun _ => ?_))
      | exact ih0 _ _ _
      | exact LeO.none _
      | refine LeO.ite ?_ ?_
      | refine LeO.bind ?_ (fun _ => ?_)
theorem racewayref26_Print.mono : ∀ a0 k, LeO (racewayref26_Print.f k a0) (racewayref26_Print.f (k + 1) a0) := by
  intro a0 k
  have ih0 := racewayref26_Print.mono_l k
  unfold racewayref26_Print.f
  repeat' first
      | (with_reducible exact ih0 _ _ _)
      | (with_reducible exact LeO.refl _)
      | (with_reducible exact LeO.none _)
      | (with_reducible refine LeO.ite ?_ ?_)
      | (with_reducible refine LeO.bind ?_ (fun _ => ?_))
      | exact ih0 _ _ _
      | exact LeO.none _
      | refine LeO.ite ?_ ?_
      | refine LeO.bind ?_ (fun _ => ?_)
set_option maxHeartbeats 8000000 in
set_option maxRecDepth 100000 in
theorem racewayref26_Print.calls (k : Nat) (A0 : Option Addr) (c0 : Nat) (l0 : List (S45)) (r1 : ByteArray) (r2 : Int) (w : World) (hr0 : Kd.C k45 w A0 l0.length l0) (hc0 : l0.length ≤ c0) (h : racewayref26_Print.f k l0 = some (r1, r2)) :
    Calls Tryd.prog 25 #[.slice A0 l0.length c0] w fun e w' => e = .returned (.tuple #[.string r1, .int .i64 r2]) ∧ Drawn0 w w' := by
  have HR0 := Aside0.mk hr0
  have HC0 := Aside0.mk hc0
  clear hr0 hc0
  have H : (if (l0.length : Int) > 1024 then (some ((⟨#[]⟩ : ByteArray), 7)) else (racewayref26_Print.l0 k l0 (⟨#[]⟩ : ByteArray) 0)) = some (r1, r2) := h
  clear h
  by_cases c2 : (l0.length : Int) > 1024
  · rw [if_pos c2] at H
    have c2b0 : decide (1024 < (l0.length : Int)) = true := decide_eq_true c2
    have c2b1 : decide (1024 < l0.length) = true := decide_eq_true (by omega)
    clear c2
    simp only [Option.some.injEq, Prod.mk.injEq] at H
    obtain ⟨rfl, rfl⟩ := H
    go_enter Tryd.func25, Tryd.ntmps25
    go_wp2
    repeat (go_quiet (fail); try go_wp2)
    go_ret2
    exact ⟨by first | rfl | (simp; done) | (simp [*]; done), by repeat (first | exact Drawn0.refl _ | apply Drawn0.step)⟩
  · rw [if_neg c2] at H
    have c2b0 : decide (1024 < (l0.length : Int)) = false := decide_eq_false c2
    have c2b1 : decide (1024 < l0.length) = false := decide_eq_false (by omega)
    clear c2
    have H' := Aside0.mk H
    clear H
    go_enter Tryd.func25, Tryd.ntmps25
    go_wp2
    repeat (go_quiet (fail); try go_wp2)
    go_loopg [4, 5] k (fun kq v4 v5 w' => ∃ (x4_1 : ByteArray) (x5_1 : Int), v4 = .string x4_1 ∧ v5 = .int .i64 x5_1 ∧ Aside0 (racewayref26_Print.l0 kq l0 x4_1 x5_1 = some (r1, r2)) ∧ Aside0 (kq ≤ k) ∧ Drawn0 w w')
    case atStart => exact ⟨((⟨#[]⟩ : ByteArray)), (0), (by first | rfl | (simp; done) | (simp [*]; done)), (by first | rfl | (simp; done) | (simp [*]; done)), H', ⟨Nat.le_refl _⟩, by repeat (first | exact Drawn0.refl _ | apply Drawn0.step)⟩
    case round =>
      clear H'
      try clear c2
      try clear c2b0
      try clear c2b1
      try clear p2
      obtain ⟨x4_1, x5_1, rfl, rfl, HA, HK1, ⟨m1, rfl⟩⟩ := hrel
      cases gk with
      | zero => exact absurd HA.out (by simp [racewayref26_Print.l0])
      | succ k1 =>
        have H := HA.out
        clear HA
        simp only [racewayref26_Print.l0] at H
        by_cases c3 : x5_1 < (l0.length : Int)
        · rw [if_pos c3] at H
          have c3b0 : decide (x5_1 < (l0.length : Int)) = true := decide_eq_true c3
          clear c3
          by_cases c4 : x5_1 > 0
          · rw [if_pos c4] at H
            have c4b0 : decide (0 < x5_1) = true := decide_eq_true c4
            clear c4
            by_cases c5 : x4_1.size + 1 ≤ 9223372036854775807
            · rw [if_pos c5] at H
              have c5b0 := eq_true c5
              have c5b1 : decide (x4_1.size + 1 ≤ 9223372036854775807) = true := decide_eq_true c5
              try have c5b2 : (9223372036854775807 < x4_1.size + 1) = False := eq_false (Nat.not_lt.2 c5)
              by_cases c6 : 0 ≤ x5_1
              · rw [if_pos c6] at H
                have c6b0 : decide (0 ≤ x5_1) = true := decide_eq_true c6
                clear c6
                replace H := Option.bind_eq_some_iff.mp H
                obtain ⟨t244, A70, H⟩ := H
                replace H : (if (x4_1 ++ (⟨#[38]⟩ : ByteArray)).size + t244.size ≤ 9223372036854775807 then (if ((x4_1 ++ (⟨#[38]⟩ : ByteArray)) ++ t244).size + 1 ≤ 9223372036854775807 then ((racewayref26_Escape.f ((rd_T45 l0 x5_1).f1)).bind fun t246 => (if (((x4_1 ++ (⟨#[38]⟩ : ByteArray)) ++ t244) ++ (⟨#[61]⟩ : ByteArray)).size + t246.size ≤ 9223372036854775807 then (racewayref26_Print.l0 k1 l0 ((((x4_1 ++ (⟨#[38]⟩ : ByteArray)) ++ t244) ++ (⟨#[61]⟩ : ByteArray)) ++ t246) (wrap64 (x5_1 + 1))) else (none))) else (none)) else (none)) = some (r1, r2) := H
                have A7 := Aside0.mk A70
                clear A70
                by_cases c8 : (x4_1 ++ (⟨#[38]⟩ : ByteArray)).size + t244.size ≤ 9223372036854775807
                · rw [if_pos c8] at H
                  have c8b0 := eq_true c8
                  have c8b1 : decide ((x4_1 ++ (⟨#[38]⟩ : ByteArray)).size + t244.size ≤ 9223372036854775807) = true := decide_eq_true c8
                  try have c8b2 : (9223372036854775807 < (x4_1 ++ (⟨#[38]⟩ : ByteArray)).size + t244.size) = False := eq_false (Nat.not_lt.2 c8)
                  have c8u := c8
                  simp only [ByteArray.size_append, sz_61_19, sz_38_19] at c8u
                  have c8v := eq_false (Nat.not_lt.2 c8u)
                  have c8x := eq_true c8u
                  by_cases c9 : ((x4_1 ++ (⟨#[38]⟩ : ByteArray)) ++ t244).size + 1 ≤ 9223372036854775807
                  · rw [if_pos c9] at H
                    have c9b0 := eq_true c9
                    have c9b1 : decide (((x4_1 ++ (⟨#[38]⟩ : ByteArray)) ++ t244).size + 1 ≤ 9223372036854775807) = true := decide_eq_true c9
                    try have c9b2 : (9223372036854775807 < ((x4_1 ++ (⟨#[38]⟩ : ByteArray)) ++ t244).size + 1) = False := eq_false (Nat.not_lt.2 c9)
                    have c9u := c9
                    simp only [ByteArray.size_append, sz_61_19, sz_38_19] at c9u
                    have c9v := eq_false (Nat.not_lt.2 c9u)
                    have c9x := eq_true c9u
                    replace H := Option.bind_eq_some_iff.mp H
                    obtain ⟨t246, A100, H⟩ := H
                    replace H : (if (((x4_1 ++ (⟨#[38]⟩ : ByteArray)) ++ t244) ++ (⟨#[61]⟩ : ByteArray)).size + t246.size ≤ 9223372036854775807 then (racewayref26_Print.l0 k1 l0 ((((x4_1 ++ (⟨#[38]⟩ : ByteArray)) ++ t244) ++ (⟨#[61]⟩ : ByteArray)) ++ t246) (wrap64 (x5_1 + 1))) else (none)) = some (r1, r2) := H
                    have A10 := Aside0.mk A100
                    clear A100
                    by_cases c11 : (((x4_1 ++ (⟨#[38]⟩ : ByteArray)) ++ t244) ++ (⟨#[61]⟩ : ByteArray)).size + t246.size ≤ 9223372036854775807
                    · rw [if_pos c11] at H
                      have c11b0 := eq_true c11
                      have c11b1 : decide ((((x4_1 ++ (⟨#[38]⟩ : ByteArray)) ++ t244) ++ (⟨#[61]⟩ : ByteArray)).size + t246.size ≤ 9223372036854775807) = true := decide_eq_true c11
                      try have c11b2 : (9223372036854775807 < (((x4_1 ++ (⟨#[38]⟩ : ByteArray)) ++ t244) ++ (⟨#[61]⟩ : ByteArray)).size + t246.size) = False := eq_false (Nat.not_lt.2 c11)
                      have c11u := c11
                      simp only [ByteArray.size_append, sz_61_19, sz_38_19] at c11u
                      have c11v := eq_false (Nat.not_lt.2 c11u)
                      have c11x := eq_true c11u
                      have H' := Aside0.mk H
                      clear H
                      have p243 : 0 ≤ (x5_1 : Int) := of_decide_eq_true (by first | (with_reducible assumption) | assumption)
                      have q243 : x5_1 < (l0.length : Int) := of_decide_eq_true (by first | (with_reducible assumption) | assumption)
                      obtain ⟨ad243, e243, hx243_0, hx243_1⟩ := at_T45 HR0.out x5_1 p243 q243
                      cases e243
                      replace p243 := eq_true p243
                      replace q243 := eq_true q243
                      go_wp2_with (first | (go_at_call 12; (with_reducible refine (racewayref26_Escape.calls ((rd_T45 l0 x5_1).f0) t244 _ A7.out).mono ?_); rintro e w' ⟨rfl, ⟨nd, rfl⟩⟩; (try first | exact ⟨rfl, _, World.drewN_drewN _ _ _⟩ | exact ⟨rfl, _, Eq.trans (World.drewN_drewN _ _ _) (congrArg (World.drewN _) (Nat.add_assoc _ _ _))⟩); have p245 : 0 ≤ (x5_1 : Int) := of_decide_eq_true (by first | (with_reducible assumption) | assumption); have q245 : x5_1 < (l0.length : Int) := of_decide_eq_true (by first | (with_reducible assumption) | assumption); obtain ⟨ad245, e245, hx245_0, hx245_1⟩ := at_T45 HR0.out x5_1 p245 q245; obtain rfl : ad243 = ad245 := (by injection e245); replace p245 := eq_true p245; replace q245 := eq_true q245) | (go_at_call 12; (with_reducible refine (racewayref26_Escape.calls ((rd_T45 l0 x5_1).f1) t246 _ A10.out).mono ?_); rintro e w' ⟨rfl, ⟨nd, rfl⟩⟩; (try first | exact ⟨rfl, _, World.drewN_drewN _ _ _⟩ | exact ⟨rfl, _, Eq.trans (World.drewN_drewN _ _ _) (congrArg (World.drewN _) (Nat.add_assoc _ _ _))⟩)))
                      repeat (go_quiet (first | (go_at_call 12; (with_reducible refine (racewayref26_Escape.calls ((rd_T45 l0 x5_1).f0) t244 _ A7.out).mono ?_); rintro e w' ⟨rfl, ⟨nd, rfl⟩⟩; (try first | exact ⟨rfl, _, World.drewN_drewN _ _ _⟩ | exact ⟨rfl, _, Eq.trans (World.drewN_drewN _ _ _) (congrArg (World.drewN _) (Nat.add_assoc _ _ _))⟩); have p245 : 0 ≤ (x5_1 : Int) := of_decide_eq_true (by first | (with_reducible assumption) | assumption); have q245 : x5_1 < (l0.length : Int) := of_decide_eq_true (by first | (with_reducible assumption) | assumption); obtain ⟨ad245, e245, hx245_0, hx245_1⟩ := at_T45 HR0.out x5_1 p245 q245; obtain rfl : ad243 = ad245 := (by injection e245); replace p245 := eq_true p245; replace q245 := eq_true q245) | (go_at_call 12; (with_reducible refine (racewayref26_Escape.calls ((rd_T45 l0 x5_1).f1) t246 _ A10.out).mono ?_); rintro e w' ⟨rfl, ⟨nd, rfl⟩⟩; (try first | exact ⟨rfl, _, World.drewN_drewN _ _ _⟩ | exact ⟨rfl, _, Eq.trans (World.drewN_drewN _ _ _) (congrArg (World.drewN _) (Nat.add_assoc _ _ _))⟩))); try go_wp2_with (first | (go_at_call 12; (with_reducible refine (racewayref26_Escape.calls ((rd_T45 l0 x5_1).f0) t244 _ A7.out).mono ?_); rintro e w' ⟨rfl, ⟨nd, rfl⟩⟩; (try first | exact ⟨rfl, _, World.drewN_drewN _ _ _⟩ | exact ⟨rfl, _, Eq.trans (World.drewN_drewN _ _ _) (congrArg (World.drewN _) (Nat.add_assoc _ _ _))⟩); have p245 : 0 ≤ (x5_1 : Int) := of_decide_eq_true (by first | (with_reducible assumption) | assumption); have q245 : x5_1 < (l0.length : Int) := of_decide_eq_true (by first | (with_reducible assumption) | assumption); obtain ⟨ad245, e245, hx245_0, hx245_1⟩ := at_T45 HR0.out x5_1 p245 q245; obtain rfl : ad243 = ad245 := (by injection e245); replace p245 := eq_true p245; replace q245 := eq_true q245) | (go_at_call 12; (with_reducible refine (racewayref26_Escape.calls ((rd_T45 l0 x5_1).f1) t246 _ A10.out).mono ?_); rintro e w' ⟨rfl, ⟨nd, rfl⟩⟩; (try first | exact ⟨rfl, _, World.drewN_drewN _ _ _⟩ | exact ⟨rfl, _, Eq.trans (World.drewN_drewN _ _ _) (congrArg (World.drewN _) (Nat.add_assoc _ _ _))⟩))))
                      go_roundg k1
                      case measure => have := HK1.out; omega
                      case rel => exact ⟨((((x4_1 ++ (⟨#[38]⟩ : ByteArray)) ++ t244) ++ (⟨#[61]⟩ : ByteArray)) ++ t246), (wrap64 (x5_1 + 1)), (by first | rfl | (simp; done) | (simp [*]; done)), (by first | rfl | (simp; done) | (simp [*]; done)), H', ⟨by have := HK1.out; omega⟩, by repeat (first | exact Drawn0.refl _ | apply Drawn0.step)⟩
                    · rw [if_neg c11] at H
                      exact absurd H (by simp)
                  · rw [if_neg c9] at H
                    exact absurd H (by simp)
                · rw [if_neg c8] at H
                  exact absurd H (by simp)
              · rw [if_neg c6] at H
                exact absurd H (by simp)
            · rw [if_neg c5] at H
              exact absurd H (by simp)
          · rw [if_neg c4] at H
            have c4b0 : decide (0 < x5_1) = false := decide_eq_false c4
            clear c4
            by_cases c12 : 0 ≤ x5_1
            · rw [if_pos c12] at H
              have c12b0 : decide (0 ≤ x5_1) = true := decide_eq_true c12
              clear c12
              replace H := Option.bind_eq_some_iff.mp H
              obtain ⟨t248, A130, H⟩ := H
              replace H : (if x4_1.size + t248.size ≤ 9223372036854775807 then (if (x4_1 ++ t248).size + 1 ≤ 9223372036854775807 then ((racewayref26_Escape.f ((rd_T45 l0 x5_1).f1)).bind fun t250 => (if ((x4_1 ++ t248) ++ (⟨#[61]⟩ : ByteArray)).size + t250.size ≤ 9223372036854775807 then (racewayref26_Print.l0 k1 l0 (((x4_1 ++ t248) ++ (⟨#[61]⟩ : ByteArray)) ++ t250) (wrap64 (x5_1 + 1))) else (none))) else (none)) else (none)) = some (r1, r2) := H
              have A13 := Aside0.mk A130
              clear A130
              by_cases c14 : x4_1.size + t248.size ≤ 9223372036854775807
              · rw [if_pos c14] at H
                have c14b0 := eq_true c14
                have c14b1 : decide (x4_1.size + t248.size ≤ 9223372036854775807) = true := decide_eq_true c14
                try have c14b2 : (9223372036854775807 < x4_1.size + t248.size) = False := eq_false (Nat.not_lt.2 c14)
                by_cases c15 : (x4_1 ++ t248).size + 1 ≤ 9223372036854775807
                · rw [if_pos c15] at H
                  have c15b0 := eq_true c15
                  have c15b1 : decide ((x4_1 ++ t248).size + 1 ≤ 9223372036854775807) = true := decide_eq_true c15
                  try have c15b2 : (9223372036854775807 < (x4_1 ++ t248).size + 1) = False := eq_false (Nat.not_lt.2 c15)
                  have c15u := c15
                  simp only [ByteArray.size_append, sz_61_19, sz_38_19] at c15u
                  have c15v := eq_false (Nat.not_lt.2 c15u)
                  have c15x := eq_true c15u
                  replace H := Option.bind_eq_some_iff.mp H
                  obtain ⟨t250, A160, H⟩ := H
                  replace H : (if ((x4_1 ++ t248) ++ (⟨#[61]⟩ : ByteArray)).size + t250.size ≤ 9223372036854775807 then (racewayref26_Print.l0 k1 l0 (((x4_1 ++ t248) ++ (⟨#[61]⟩ : ByteArray)) ++ t250) (wrap64 (x5_1 + 1))) else (none)) = some (r1, r2) := H
                  have A16 := Aside0.mk A160
                  clear A160
                  by_cases c17 : ((x4_1 ++ t248) ++ (⟨#[61]⟩ : ByteArray)).size + t250.size ≤ 9223372036854775807
                  · rw [if_pos c17] at H
                    have c17b0 := eq_true c17
                    have c17b1 : decide (((x4_1 ++ t248) ++ (⟨#[61]⟩ : ByteArray)).size + t250.size ≤ 9223372036854775807) = true := decide_eq_true c17
                    try have c17b2 : (9223372036854775807 < ((x4_1 ++ t248) ++ (⟨#[61]⟩ : ByteArray)).size + t250.size) = False := eq_false (Nat.not_lt.2 c17)
                    have c17u := c17
                    simp only [ByteArray.size_append, sz_61_19, sz_38_19] at c17u
                    have c17v := eq_false (Nat.not_lt.2 c17u)
                    have c17x := eq_true c17u
                    have H' := Aside0.mk H
                    clear H
                    have p247 : 0 ≤ (x5_1 : Int) := of_decide_eq_true (by first | (with_reducible assumption) | assumption)
                    have q247 : x5_1 < (l0.length : Int) := of_decide_eq_true (by first | (with_reducible assumption) | assumption)
                    obtain ⟨ad247, e247, hx247_0, hx247_1⟩ := at_T45 HR0.out x5_1 p247 q247
                    cases e247
                    replace p247 := eq_true p247
                    replace q247 := eq_true q247
                    go_wp2_with (first | (go_at_call 12; (with_reducible refine (racewayref26_Escape.calls ((rd_T45 l0 x5_1).f0) t248 _ A13.out).mono ?_); rintro e w' ⟨rfl, ⟨nd, rfl⟩⟩; (try first | exact ⟨rfl, _, World.drewN_drewN _ _ _⟩ | exact ⟨rfl, _, Eq.trans (World.drewN_drewN _ _ _) (congrArg (World.drewN _) (Nat.add_assoc _ _ _))⟩); have p249 : 0 ≤ (x5_1 : Int) := of_decide_eq_true (by first | (with_reducible assumption) | assumption); have q249 : x5_1 < (l0.length : Int) := of_decide_eq_true (by first | (with_reducible assumption) | assumption); obtain ⟨ad249, e249, hx249_0, hx249_1⟩ := at_T45 HR0.out x5_1 p249 q249; obtain rfl : ad247 = ad249 := (by injection e249); replace p249 := eq_true p249; replace q249 := eq_true q249) | (go_at_call 12; (with_reducible refine (racewayref26_Escape.calls ((rd_T45 l0 x5_1).f1) t250 _ A16.out).mono ?_); rintro e w' ⟨rfl, ⟨nd, rfl⟩⟩; (try first | exact ⟨rfl, _, World.drewN_drewN _ _ _⟩ | exact ⟨rfl, _, Eq.trans (World.drewN_drewN _ _ _) (congrArg (World.drewN _) (Nat.add_assoc _ _ _))⟩)))
                    repeat (go_quiet (first | (go_at_call 12; (with_reducible refine (racewayref26_Escape.calls ((rd_T45 l0 x5_1).f0) t248 _ A13.out).mono ?_); rintro e w' ⟨rfl, ⟨nd, rfl⟩⟩; (try first | exact ⟨rfl, _, World.drewN_drewN _ _ _⟩ | exact ⟨rfl, _, Eq.trans (World.drewN_drewN _ _ _) (congrArg (World.drewN _) (Nat.add_assoc _ _ _))⟩); have p249 : 0 ≤ (x5_1 : Int) := of_decide_eq_true (by first | (with_reducible assumption) | assumption); have q249 : x5_1 < (l0.length : Int) := of_decide_eq_true (by first | (with_reducible assumption) | assumption); obtain ⟨ad249, e249, hx249_0, hx249_1⟩ := at_T45 HR0.out x5_1 p249 q249; obtain rfl : ad247 = ad249 := (by injection e249); replace p249 := eq_true p249; replace q249 := eq_true q249) | (go_at_call 12; (with_reducible refine (racewayref26_Escape.calls ((rd_T45 l0 x5_1).f1) t250 _ A16.out).mono ?_); rintro e w' ⟨rfl, ⟨nd, rfl⟩⟩; (try first | exact ⟨rfl, _, World.drewN_drewN _ _ _⟩ | exact ⟨rfl, _, Eq.trans (World.drewN_drewN _ _ _) (congrArg (World.drewN _) (Nat.add_assoc _ _ _))⟩))); try go_wp2_with (first | (go_at_call 12; (with_reducible refine (racewayref26_Escape.calls ((rd_T45 l0 x5_1).f0) t248 _ A13.out).mono ?_); rintro e w' ⟨rfl, ⟨nd, rfl⟩⟩; (try first | exact ⟨rfl, _, World.drewN_drewN _ _ _⟩ | exact ⟨rfl, _, Eq.trans (World.drewN_drewN _ _ _) (congrArg (World.drewN _) (Nat.add_assoc _ _ _))⟩); have p249 : 0 ≤ (x5_1 : Int) := of_decide_eq_true (by first | (with_reducible assumption) | assumption); have q249 : x5_1 < (l0.length : Int) := of_decide_eq_true (by first | (with_reducible assumption) | assumption); obtain ⟨ad249, e249, hx249_0, hx249_1⟩ := at_T45 HR0.out x5_1 p249 q249; obtain rfl : ad247 = ad249 := (by injection e249); replace p249 := eq_true p249; replace q249 := eq_true q249) | (go_at_call 12; (with_reducible refine (racewayref26_Escape.calls ((rd_T45 l0 x5_1).f1) t250 _ A16.out).mono ?_); rintro e w' ⟨rfl, ⟨nd, rfl⟩⟩; (try first | exact ⟨rfl, _, World.drewN_drewN _ _ _⟩ | exact ⟨rfl, _, Eq.trans (World.drewN_drewN _ _ _) (congrArg (World.drewN _) (Nat.add_assoc _ _ _))⟩))))
                    go_roundg k1
                    case measure => have := HK1.out; omega
                    case rel => exact ⟨(((x4_1 ++ t248) ++ (⟨#[61]⟩ : ByteArray)) ++ t250), (wrap64 (x5_1 + 1)), (by first | rfl | (simp; done) | (simp [*]; done)), (by first | rfl | (simp; done) | (simp [*]; done)), H', ⟨by have := HK1.out; omega⟩, by repeat (first | exact Drawn0.refl _ | apply Drawn0.step)⟩
                  · rw [if_neg c17] at H
                    exact absurd H (by simp)
                · rw [if_neg c15] at H
                  exact absurd H (by simp)
              · rw [if_neg c14] at H
                exact absurd H (by simp)
            · rw [if_neg c12] at H
              exact absurd H (by simp)
        · rw [if_neg c3] at H
          have c3b0 : decide (x5_1 < (l0.length : Int)) = false := decide_eq_false c3
          clear c3
          simp only [Option.some.injEq, Prod.mk.injEq] at H
          obtain ⟨rfl, rfl⟩ := H
          go_wp2
          repeat (go_quiet (fail); try go_wp2)
          go_ret2
          exact ⟨by first | rfl | (simp; done) | (simp [*]; done), by repeat (first | exact Drawn0.refl _ | apply Drawn0.step)⟩

end Go.Proofs.YtjampnopogdceaaDoor.P
