-- Written by the session's own program (wip/tools/myprint.py), over the kit's printer. Lean checks it.
import Derived.Test.YtimlagmgcfaepaaP0
namespace Go.Proofs.Ytimlagmgcfaepaa.P
open Go.RowKit Go.Proofs.YtimlagmgcfaepaaW.PrintWords Go.Proofs.YtimlagmgcfaepaaW.PrintLast Go.Proofs.YtimlagmgcfaepaaW.PrintMore
attribute [local go_sem] max2_int min2_int max_two min_two max_three min_three max_four min_four   -- for this text's walks alone
set_option linter.unusedVariables false
set_option linter.unusedSimpArgs false

/-! ### racewayref04_Of: function 11 -/
mutual
def racewayref04_Of.l0 : Nat → ByteArray → Int → Int → Option (Int)
  | 0, _, _, _ => none
  | k + 1, x0, x3, x4 => if x4 < (x0.size : Int) then (if 0 ≤ x4 then (racewayref04_Of.l1 k x0 x3 x4 (Int.tmod x3 256) (wrap64 (bt x0 x4)) 0 1) else (none)) else (racewayref04_Of.l2 k (wrap64 (Int.tdiv x3 65536)) (Int.tmod x3 65536) 0 1)
def racewayref04_Of.l1 : Nat → ByteArray → Int → Int → Int → Int → Int → Int → Option (Int)
  | 0, _, _, _, _, _, _, _ => none
  | k + 1, x0, x3, x4, x5, x6, x7, x8 => if x8 < 256 then (if x8 = 0 then (none) else (if (Int.tmod (wrap64 (Int.tdiv x5 x8)) 2) = (Int.tmod (wrap64 (Int.tdiv x6 x8)) 2) then (racewayref04_Of.l1 k x0 x3 x4 x5 x6 x7 (wrap64 (x8 * 2))) else (racewayref04_Of.l1 k x0 x3 x4 x5 x6 (wrap64 (x7 + x8)) (wrap64 (x8 * 2))))) else (racewayref04_Of.l0 k x0 (Int.tmod (wrap64 ((wrap64 ((wrap64 (x3 - x5)) + x7)) * 16777619)) 4294967296) (wrap64 (x4 + 1)))
def racewayref04_Of.l2 : Nat → Int → Int → Int → Int → Option (Int)
  | 0, _, _, _, _ => none
  | k + 1, x9, x10, x11, x12 => if x12 < 65536 then (if x12 = 0 then (none) else (if (Int.tmod (wrap64 (Int.tdiv x9 x12)) 2) = (Int.tmod (wrap64 (Int.tdiv x10 x12)) 2) then (racewayref04_Of.l2 k x9 x10 x11 (wrap64 (x12 * 2))) else (racewayref04_Of.l2 k x9 x10 (wrap64 (x11 + x12)) (wrap64 (x12 * 2))))) else (some x11)
end
def racewayref04_Of.f (k : Nat) (a0 : ByteArray) : Option (Int) := racewayref04_Of.l0 k a0 2166136261 0
theorem racewayref04_Of.mono_l : ∀ k, (∀ y0 y1 y2, LeO (racewayref04_Of.l0 k y0 y1 y2) (racewayref04_Of.l0 (k + 1) y0 y1 y2)) ∧ (∀ y0 y1 y2 y3 y4 y5 y6, LeO (racewayref04_Of.l1 k y0 y1 y2 y3 y4 y5 y6) (racewayref04_Of.l1 (k + 1) y0 y1 y2 y3 y4 y5 y6)) ∧ (∀ y0 y1 y2 y3, LeO (racewayref04_Of.l2 k y0 y1 y2 y3) (racewayref04_Of.l2 (k + 1) y0 y1 y2 y3))
  | 0 => ⟨fun _ _ _ r h => by simp [racewayref04_Of.l0] at h, fun _ _ _ _ _ _ _ r h => by simp [racewayref04_Of.l1] at h, fun _ _ _ _ r h => by simp [racewayref04_Of.l2] at h⟩
  | k + 1 => by
    obtain ⟨ih0, ih1, ih2⟩ := racewayref04_Of.mono_l k
    refine ⟨?_, ?_, ?_⟩
    · intro y0 y1 y2
      unfold racewayref04_Of.l0
      repeat' first
      | (with_reducible exact ih0 _ _ _)
      | (with_reducible exact ih1 _ _ _ _ _ _ _)
      | (with_reducible exact ih2 _ _ _ _)
      | (with_reducible exact LeO.refl _)
      | (with_reducible exact LeO.none _)
      | (with_reducible refine LeO.ite ?_ ?_)
      | (with_reducible refine LeO.bind ?_ (fun _ => ?_))
      | exact ih0 _ _ _
      | exact ih1 _ _ _ _ _ _ _
      | exact ih2 _ _ _ _
      | exact LeO.none _
      | refine LeO.ite ?_ ?_
      | refine LeO.bind ?_ (fun _ => ?_)
    · intro y0 y1 y2 y3 y4 y5 y6
      unfold racewayref04_Of.l1
      repeat' first
      | (with_reducible exact ih0 _ _ _)
      | (with_reducible exact ih1 _ _ _ _ _ _ _)
      | (with_reducible exact ih2 _ _ _ _)
      | (with_reducible exact LeO.refl _)
      | (with_reducible exact LeO.none _)
      | (with_reducible refine LeO.ite ?_ ?_)
      | (with_reducible refine LeO.bind ?_ (fun _ => ?_))
      | exact ih0 _ _ _
      | exact ih1 _ _ _ _ _ _ _
      | exact ih2 _ _ _ _
      | exact LeO.none _
      | refine LeO.ite ?_ ?_
      | refine LeO.bind ?_ (fun _ => ?_)
    · intro y0 y1 y2 y3
      unfold racewayref04_Of.l2
      repeat' first
      | (with_reducible exact ih0 _ _ _)
      | (with_reducible exact ih1 _ _ _ _ _ _ _)
      | (with_reducible exact ih2 _ _ _ _)
      | (with_reducible exact LeO.refl _)
      | (with_reducible exact LeO.none _)
      | (with_reducible refine LeO.ite ?_ ?_)
      | (with_reducible refine LeO.bind ?_ (fun _ => ?_))
      | exact ih0 _ _ _
      | exact ih1 _ _ _ _ _ _ _
      | exact ih2 _ _ _ _
      | exact LeO.none _
      | refine LeO.ite ?_ ?_
      | refine LeO.bind ?_ (fun _ => ?_)
theorem racewayref04_Of.mono : ∀ a0 k, LeO (racewayref04_Of.f k a0) (racewayref04_Of.f (k + 1) a0) := by
  intro a0 k
  obtain ⟨ih0, ih1, ih2⟩ := racewayref04_Of.mono_l k
  unfold racewayref04_Of.f
  repeat' first
      | (with_reducible exact ih0 _ _ _)
      | (with_reducible exact ih1 _ _ _ _ _ _ _)
      | (with_reducible exact ih2 _ _ _ _)
      | (with_reducible exact LeO.refl _)
      | (with_reducible exact LeO.none _)
      | (with_reducible refine LeO.ite ?_ ?_)
      | (with_reducible refine LeO.bind ?_ (fun _ => ?_))
      | exact ih0 _ _ _
      | exact ih1 _ _ _ _ _ _ _
      | exact ih2 _ _ _ _
      | exact LeO.none _
      | refine LeO.ite ?_ ?_
      | refine LeO.bind ?_ (fun _ => ?_)
set_option maxHeartbeats 8000000 in
set_option maxRecDepth 100000 in
theorem racewayref04_Of.calls (k : Nat) (a0 : ByteArray) (r : Int) (w : World) (h : racewayref04_Of.f k a0 = some r) :
    Calls Try.prog 11 #[.string a0] w fun e w' => e = .returned (.int .i64 r) ∧ Drawn0 w w' := by
  have H : (racewayref04_Of.l0 k a0 2166136261 0) = some r := h
  clear h
  have H' := Aside0.mk H
  clear H
  go_enter Try.func11, Try.ntmps11
  go_wp2
  repeat (go_quiet (fail); try go_wp2)
  go_loopg [3, 4] k (fun kq v3 v4 w' => ∃ (x3_1 : Int) (x4_1 : Int), v3 = .int .i64 x3_1 ∧ v4 = .int .i64 x4_1 ∧ Aside0 (racewayref04_Of.l0 kq a0 x3_1 x4_1 = some r) ∧ Aside0 (kq ≤ k) ∧ Drawn0 w w')
  case atStart => exact ⟨(2166136261), (0), (by first | rfl | (simp; done) | (simp [*]; done)), (by first | rfl | (simp; done) | (simp [*]; done)), H', ⟨Nat.le_refl _⟩, by repeat (first | exact Drawn0.refl _ | apply Drawn0.step)⟩
  case round =>
    clear H'
    try clear c1
    obtain ⟨x3_1, x4_1, rfl, rfl, HA, HK1, ⟨m1, rfl⟩⟩ := hrel
    cases gk with
    | zero => exact absurd HA.out (by simp [racewayref04_Of.l0])
    | succ k1 =>
      have H := HA.out
      clear HA
      simp only [racewayref04_Of.l0] at H
      by_cases c2 : x4_1 < (a0.size : Int)
      · rw [if_pos c2] at H
        have c2b0 : decide (x4_1 < (a0.size : Int)) = true := decide_eq_true c2
        clear c2
        by_cases c3 : 0 ≤ x4_1
        · rw [if_pos c3] at H
          have c3b0 : decide (0 ≤ x4_1) = true := decide_eq_true c3
          clear c3
          have H' := Aside0.mk H
          clear H
          have p4 : 0 ≤ (x4_1 : Int) := of_decide_eq_true (by first | (with_reducible assumption) | assumption)
          have q4 : x4_1 < (a0.size : Int) := of_decide_eq_true (by first | (with_reducible assumption) | assumption)
          have hx4 := bt_at a0 x4_1
          replace p4 := eq_true p4
          replace q4 := eq_true q4
          go_wp2
          repeat (go_quiet (fail); try go_wp2)
          go_loopg [7, 8] k1 (fun kq v7 v8 w' => ∃ (x7_2 : Int) (x8_2 : Int), v7 = .int .i64 x7_2 ∧ v8 = .int .i64 x8_2 ∧ Aside0 (racewayref04_Of.l1 kq a0 x3_1 x4_1 (Int.tmod x3_1 256) (wrap64 (bt a0 x4_1)) x7_2 x8_2 = some r) ∧ Aside0 (kq ≤ k1) ∧ Drawn0 w w')
          case atStart => exact ⟨(0), (1), (by first | rfl | (simp; done) | (simp [*]; done)), (by first | rfl | (simp; done) | (simp [*]; done)), H', ⟨Nat.le_refl _⟩, by repeat (first | exact Drawn0.refl _ | apply Drawn0.step)⟩
          case round =>
            clear H'
            try clear c1
            try clear c2
            try clear c2b0
            try clear p2
            try clear c3
            try clear c3b0
            try clear p4
            try clear q4
            try clear hx4
            try clear p4
            try clear q4
            obtain ⟨x7_2, x8_2, rfl, rfl, HA, HK2, ⟨m2, rfl⟩⟩ := hrel
            cases gk with
            | zero => exact absurd HA.out (by simp [racewayref04_Of.l1])
            | succ k2 =>
              have H := HA.out
              clear HA
              simp only [racewayref04_Of.l1] at H
              by_cases c5 : x8_2 < 256
              · rw [if_pos c5] at H
                have c5b0 : decide (x8_2 < 256) = true := decide_eq_true c5
                clear c5
                by_cases c6 : x8_2 = 0
                · rw [if_pos c6] at H
                  exact absurd H (by simp)
                · rw [if_neg c6] at H
                  have c6b0 : (x8_2 == 0) = false := beq_eq_false_iff_ne.mpr c6
                  have c6b1 : (x8_2 != 0) = true := bne_iff_ne.mpr c6
                  by_cases c7 : (Int.tmod (wrap64 (Int.tdiv (Int.tmod x3_1 256) x8_2)) 2) = (Int.tmod (wrap64 (Int.tdiv (wrap64 (bt a0 x4_1)) x8_2)) 2)
                  · rw [if_pos c7] at H
                    have c7b0 : ((Int.tmod (wrap64 (Int.tdiv (Int.tmod x3_1 256) x8_2)) 2) == (Int.tmod (wrap64 (Int.tdiv (wrap64 (bt a0 x4_1)) x8_2)) 2)) = true := beq_iff_eq.mpr c7
                    have c7b1 : ((Int.tmod (wrap64 (Int.tdiv (Int.tmod x3_1 256) x8_2)) 2) != (Int.tmod (wrap64 (Int.tdiv (wrap64 (bt a0 x4_1)) x8_2)) 2)) = false := bne_eq_false_iff_eq.mpr c7
                    clear c7
                    have H' := Aside0.mk H
                    clear H
                    go_wp2
                    repeat (go_quiet (fail); try go_wp2)
                    go_roundg k2
                    case measure => have := HK1.out; have := HK2.out; omega
                    case rel => exact ⟨(x7_2), (wrap64 (x8_2 * 2)), (by first | rfl | (simp; done) | (simp [*]; done)), (by first | rfl | (simp; done) | (simp [*]; done)), H', ⟨by have := HK1.out; have := HK2.out; omega⟩, by repeat (first | exact Drawn0.refl _ | apply Drawn0.step)⟩
                  · rw [if_neg c7] at H
                    have c7b0 : ((Int.tmod (wrap64 (Int.tdiv (Int.tmod x3_1 256) x8_2)) 2) == (Int.tmod (wrap64 (Int.tdiv (wrap64 (bt a0 x4_1)) x8_2)) 2)) = false := beq_eq_false_iff_ne.mpr c7
                    have c7b1 : ((Int.tmod (wrap64 (Int.tdiv (Int.tmod x3_1 256) x8_2)) 2) != (Int.tmod (wrap64 (Int.tdiv (wrap64 (bt a0 x4_1)) x8_2)) 2)) = true := bne_iff_ne.mpr c7
                    have H' := Aside0.mk H
                    clear H
                    go_wp2
                    repeat (go_quiet (fail); try go_wp2)
                    go_roundg k2
                    case measure => have := HK1.out; have := HK2.out; omega
                    case rel => exact ⟨(wrap64 (x7_2 + x8_2)), (wrap64 (x8_2 * 2)), (by first | rfl | (simp; done) | (simp [*]; done)), (by first | rfl | (simp; done) | (simp [*]; done)), H', ⟨by have := HK1.out; have := HK2.out; omega⟩, by repeat (first | exact Drawn0.refl _ | apply Drawn0.step)⟩
              · rw [if_neg c5] at H
                have c5b0 : decide (x8_2 < 256) = false := decide_eq_false c5
                clear c5
                have H' := Aside0.mk H
                clear H
                go_wp2
                repeat (go_quiet (fail); try go_wp2)
                go_roundg k2
                case measure => have := HK1.out; have := HK2.out; omega
                case rel => exact ⟨(Int.tmod (wrap64 ((wrap64 ((wrap64 (x3_1 - (Int.tmod x3_1 256))) + x7_2)) * 16777619)) 4294967296), (wrap64 (x4_1 + 1)), (by first | rfl | (simp; done) | (simp [*]; done)), (by first | rfl | (simp; done) | (simp [*]; done)), H', ⟨by have := HK1.out; have := HK2.out; omega⟩, by repeat (first | exact Drawn0.refl _ | apply Drawn0.step)⟩
        · rw [if_neg c3] at H
          exact absurd H (by simp)
      · rw [if_neg c2] at H
        have c2b0 : decide (x4_1 < (a0.size : Int)) = false := decide_eq_false c2
        clear c2
        have H' := Aside0.mk H
        clear H
        go_wp2
        repeat (go_quiet (fail); try go_wp2)
        go_loopg [11, 12] k1 (fun kq v11 v12 w' => ∃ (x11_2 : Int) (x12_2 : Int), v11 = .int .i64 x11_2 ∧ v12 = .int .i64 x12_2 ∧ Aside0 (racewayref04_Of.l2 kq (wrap64 (Int.tdiv x3_1 65536)) (Int.tmod x3_1 65536) x11_2 x12_2 = some r) ∧ Aside0 (kq ≤ k1) ∧ Drawn0 w w')
        case atStart => exact ⟨(0), (1), (by first | rfl | (simp; done) | (simp [*]; done)), (by first | rfl | (simp; done) | (simp [*]; done)), H', ⟨Nat.le_refl _⟩, by repeat (first | exact Drawn0.refl _ | apply Drawn0.step)⟩
        case round =>
          clear H'
          try clear c1
          try clear c2
          try clear c2b0
          try clear p2
          try clear c3
          try clear c3b0
          try clear p4
          try clear q4
          try clear hx4
          try clear c5
          try clear c5b0
          try clear c6
          try clear c6b0
          try clear c6b1
          try clear p6
          try clear c7
          try clear c7b0
          try clear c7b1
          try clear p2
          try clear p4
          try clear q4
          obtain ⟨x11_2, x12_2, rfl, rfl, HA, HK2, ⟨m2, rfl⟩⟩ := hrel
          cases gk with
          | zero => exact absurd HA.out (by simp [racewayref04_Of.l2])
          | succ k2 =>
            have H := HA.out
            clear HA
            simp only [racewayref04_Of.l2] at H
            by_cases c8 : x12_2 < 65536
            · rw [if_pos c8] at H
              have c8b0 : decide (x12_2 < 65536) = true := decide_eq_true c8
              clear c8
              by_cases c9 : x12_2 = 0
              · rw [if_pos c9] at H
                exact absurd H (by simp)
              · rw [if_neg c9] at H
                have c9b0 : (x12_2 == 0) = false := beq_eq_false_iff_ne.mpr c9
                have c9b1 : (x12_2 != 0) = true := bne_iff_ne.mpr c9
                by_cases c10 : (Int.tmod (wrap64 (Int.tdiv (wrap64 (Int.tdiv x3_1 65536)) x12_2)) 2) = (Int.tmod (wrap64 (Int.tdiv (Int.tmod x3_1 65536) x12_2)) 2)
                · rw [if_pos c10] at H
                  have c10b0 : ((Int.tmod (wrap64 (Int.tdiv (wrap64 (Int.tdiv x3_1 65536)) x12_2)) 2) == (Int.tmod (wrap64 (Int.tdiv (Int.tmod x3_1 65536) x12_2)) 2)) = true := beq_iff_eq.mpr c10
                  have c10b1 : ((Int.tmod (wrap64 (Int.tdiv (wrap64 (Int.tdiv x3_1 65536)) x12_2)) 2) != (Int.tmod (wrap64 (Int.tdiv (Int.tmod x3_1 65536) x12_2)) 2)) = false := bne_eq_false_iff_eq.mpr c10
                  clear c10
                  have H' := Aside0.mk H
                  clear H
                  go_wp2
                  repeat (go_quiet (fail); try go_wp2)
                  go_roundg k2
                  case measure => have := HK1.out; have := HK2.out; omega
                  case rel => exact ⟨(x11_2), (wrap64 (x12_2 * 2)), (by first | rfl | (simp; done) | (simp [*]; done)), (by first | rfl | (simp; done) | (simp [*]; done)), H', ⟨by have := HK1.out; have := HK2.out; omega⟩, by repeat (first | exact Drawn0.refl _ | apply Drawn0.step)⟩
                · rw [if_neg c10] at H
                  have c10b0 : ((Int.tmod (wrap64 (Int.tdiv (wrap64 (Int.tdiv x3_1 65536)) x12_2)) 2) == (Int.tmod (wrap64 (Int.tdiv (Int.tmod x3_1 65536) x12_2)) 2)) = false := beq_eq_false_iff_ne.mpr c10
                  have c10b1 : ((Int.tmod (wrap64 (Int.tdiv (wrap64 (Int.tdiv x3_1 65536)) x12_2)) 2) != (Int.tmod (wrap64 (Int.tdiv (Int.tmod x3_1 65536) x12_2)) 2)) = true := bne_iff_ne.mpr c10
                  have H' := Aside0.mk H
                  clear H
                  go_wp2
                  repeat (go_quiet (fail); try go_wp2)
                  go_roundg k2
                  case measure => have := HK1.out; have := HK2.out; omega
                  case rel => exact ⟨(wrap64 (x11_2 + x12_2)), (wrap64 (x12_2 * 2)), (by first | rfl | (simp; done) | (simp [*]; done)), (by first | rfl | (simp; done) | (simp [*]; done)), H', ⟨by have := HK1.out; have := HK2.out; omega⟩, by repeat (first | exact Drawn0.refl _ | apply Drawn0.step)⟩
            · rw [if_neg c8] at H
              have c8b0 : decide (x12_2 < 65536) = false := decide_eq_false c8
              clear c8
              obtain rfl := Option.some.inj H
              go_wp2
              repeat (go_quiet (fail); try go_wp2)
              go_ret
              exact ⟨by first | rfl | (simp; done) | (simp [*]; done), by repeat (first | exact Drawn0.refl _ | apply Drawn0.step)⟩

end Go.Proofs.Ytimlagmgcfaepaa.P
