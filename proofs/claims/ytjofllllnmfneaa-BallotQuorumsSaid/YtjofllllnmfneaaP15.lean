-- Written by the session's own program (wip/tools/myprint.py), over the kit's printer. Lean checks it.
import Derived.Test.YtjofllllnmfneaaP0
import Derived.Test.YtjofllllnmfneaaP1
import Derived.Test.YtjofllllnmfneaaP4
namespace Go.Proofs.Ytjofllllnmfneaa.P
open Go.RowKit Go.Proofs.YtjofllllnmfneaaW.PrintWords Go.Proofs.YtjofllllnmfneaaW.PrintLast Go.Proofs.YtjofllllnmfneaaW.PrintMore
attribute [local go_sem] max2_int min2_int max_two min_two max_three min_three max_four min_four   -- for this text's walks alone
set_option linter.unusedVariables false
set_option linter.unusedSimpArgs false

/-! ### racewaylaw09_BallotQuorums: function 4 -/
def racewaylaw09_BallotQuorums.l0 : Nat → Int → Int → Int → Int → Int → Int → Int → Int → Int → Option (Bool)
  | 0, _, _, _, _, _, _, _, _, _ => none
  | k + 1, x0, x1, x2, x7, x8, x9, x10, x19, x20 => if x20 < x19 then (if 0 ≤ x20 then (if (Go.bits .and .u8 (shr .u8 x1 x20) 1) = 1 then (if (Go.bits .and .u8 (shr .u8 x2 x20) 1) = 1 then (racewaylaw09_BallotQuorums.l0 k x0 x1 x2 x7 (wrap64 (x8 + 1)) (wrap64 (x9 + 1)) (wrap64 (x10 + 1)) x19 (wrap64 (x20 + 1))) else (racewaylaw09_BallotQuorums.l0 k x0 x1 x2 x7 (wrap64 (x8 + 1)) x9 x10 x19 (wrap64 (x20 + 1)))) else (if (Go.bits .and .u8 (shr .u8 x2 x20) 1) = 1 then (racewaylaw09_BallotQuorums.l0 k x0 x1 x2 x7 x8 (wrap64 (x9 + 1)) x10 x19 (wrap64 (x20 + 1))) else (racewaylaw09_BallotQuorums.l0 k x0 x1 x2 x7 x8 x9 x10 x19 (wrap64 (x20 + 1))))) else (none)) else (if x8 < x7 then (if x7 ≤ x0 then (if (wrap64 (2 * (wrap64 (x7 - 1)))) ≤ x0 then ((racewaylaw09_works.f).bind fun t155 => (some t155)) else (some false)) else (some false)) else (if x9 < x7 then (if x7 ≤ x0 then (if (wrap64 (2 * (wrap64 (x7 - 1)))) ≤ x0 then ((racewaylaw09_works.f).bind fun t156 => (some t156)) else (some false)) else (some false)) else (if x10 > 0 then (if x7 ≤ x0 then (if (wrap64 (2 * (wrap64 (x7 - 1)))) ≤ x0 then ((racewaylaw09_works.f).bind fun t157 => (some t157)) else (some false)) else (some false)) else (some false))))
def racewaylaw09_BallotQuorums.f (k : Nat) (a0 : Int) (a1 : Int) (a2 : Int) : Option (Bool) := (ballot_Quorum.f (wrap64 (1 + (Int.tmod (wrap64 ((Int.tmod a0 5) + 5)) 5)))).bind fun t154 => (racewaylaw09_BallotQuorums.l0 k (wrap64 (1 + (Int.tmod (wrap64 ((Int.tmod a0 5) + 5)) 5))) a1 a2 t154 0 0 0 (wrap64 (1 + (Int.tmod (wrap64 ((Int.tmod a0 5) + 5)) 5))) 0)
theorem racewaylaw09_BallotQuorums.mono_l : ∀ k, (∀ y0 y1 y2 y3 y4 y5 y6 y7 y8, LeO (racewaylaw09_BallotQuorums.l0 k y0 y1 y2 y3 y4 y5 y6 y7 y8) (racewaylaw09_BallotQuorums.l0 (k + 1) y0 y1 y2 y3 y4 y5 y6 y7 y8))
  | 0 => fun _ _ _ _ _ _ _ _ _ r h => by simp [racewaylaw09_BallotQuorums.l0] at h
  | k + 1 => by
    have ih0 := racewaylaw09_BallotQuorums.mono_l k
    · intro y0 y1 y2 y3 y4 y5 y6 y7 y8
      unfold racewaylaw09_BallotQuorums.l0
      repeat' first
      | (with_reducible exact ih0 _ _ _ _ _ _ _ _ _)
      | (with_reducible exact LeO.refl _)
      | (with_reducible exact LeO.none _)
      | (with_reducible refine LeO.ite ?_ ?_)
      | (with_reducible refine LeO.bind ?_ (fun _ => ?_))
      | exact ih0 _ _ _ _ _ _ _ _ _
      | exact LeO.none _
      | refine LeO.ite ?_ ?_
      | refine LeO.bind ?_ (fun _ => ?_)
theorem racewaylaw09_BallotQuorums.mono : ∀ a0 a1 a2 k, LeO (racewaylaw09_BallotQuorums.f k a0 a1 a2) (racewaylaw09_BallotQuorums.f (k + 1) a0 a1 a2) := by
  intro a0 a1 a2 k
  have ih0 := racewaylaw09_BallotQuorums.mono_l k
  unfold racewaylaw09_BallotQuorums.f
  repeat' first
      | (with_reducible exact ih0 _ _ _ _ _ _ _ _ _)
      | (with_reducible exact LeO.refl _)
      | (with_reducible exact LeO.none _)
      | (with_reducible refine LeO.ite ?_ ?_)
      | (with_reducible refine LeO.bind ?_ (fun _ => ?_))
      | exact ih0 _ _ _ _ _ _ _ _ _
      | exact LeO.none _
      | refine LeO.ite ?_ ?_
      | refine LeO.bind ?_ (fun _ => ?_)
set_option maxHeartbeats 8000000 in
set_option maxRecDepth 100000 in
theorem racewaylaw09_BallotQuorums.calls (k : Nat) (a0 : Int) (a1 : Int) (a2 : Int) (r : Bool) (w : World) (h : racewaylaw09_BallotQuorums.f k a0 a1 a2 = some r) (hrt : Aside0 (r = true)) :
    Calls Try.prog 4 #[.int .i64 a0, .int .u8 a1, .int .u8 a2] w fun e w' => e = .returned (.bool r) ∧ Below w.heap.size w w' := by
  have HB := Aside0.mk (Below.refl w.heap.size w)
  have H : ((ballot_Quorum.f (wrap64 (1 + (Int.tmod (wrap64 ((Int.tmod a0 5) + 5)) 5)))).bind fun t154 => (racewaylaw09_BallotQuorums.l0 k (wrap64 (1 + (Int.tmod (wrap64 ((Int.tmod a0 5) + 5)) 5))) a1 a2 t154 0 0 0 (wrap64 (1 + (Int.tmod (wrap64 ((Int.tmod a0 5) + 5)) 5))) 0)) = some r := h
  clear h
  replace H := Option.bind_eq_some_iff.mp H
  obtain ⟨t154, A40, H⟩ := H
  replace H : (racewaylaw09_BallotQuorums.l0 k (wrap64 (1 + (Int.tmod (wrap64 ((Int.tmod a0 5) + 5)) 5))) a1 a2 t154 0 0 0 (wrap64 (1 + (Int.tmod (wrap64 ((Int.tmod a0 5) + 5)) 5))) 0) = some r := H
  have A4 := Aside0.mk A40
  clear A40
  have H' := Aside0.mk H
  clear H
  go_enter Try.func4, Try.ntmps4
  go_wp2_with (first | ((with_reducible refine gate_callee (f := 15) rfl ?_); refine goesL_ (some 18) rfl rfl Try.func15 (by kernel_rfl) rfl #[.int .i64 (wrap64 (1 + (Int.tmod (wrap64 ((Int.tmod a0 5) + 5)) 5)))] rfl (by (try simp only [List.map_toArray, List.map_cons, List.map_nil]); first | done | rfl | (simp only [List.length_drop, List.length_take]; rfl)) ?_; (with_reducible refine (ballot_Quorum.calls (wrap64 (1 + (Int.tmod (wrap64 ((Int.tmod a0 5) + 5)) 5))) t154 _ A4.out).mono ?_); rintro e w' ⟨rfl, ⟨nd, rfl⟩⟩; refine ⟨_, rfl, ?_⟩))
  go_loopg [8, 9, 10, 20] k (fun kq v8 v9 v10 v20 w' => ∃ (x8_1 : Int) (x9_1 : Int) (x10_1 : Int) (x20_1 : Int), v8 = .int .i64 x8_1 ∧ v9 = .int .i64 x9_1 ∧ v10 = .int .i64 x10_1 ∧ v20 = .int .i64 x20_1 ∧ Aside0 (racewaylaw09_BallotQuorums.l0 kq (wrap64 (1 + (Int.tmod (wrap64 ((Int.tmod a0 5) + 5)) 5))) a1 a2 t154 x8_1 x9_1 x10_1 (wrap64 (1 + (Int.tmod (wrap64 ((Int.tmod a0 5) + 5)) 5))) x20_1 = some r) ∧ Aside0 (kq ≤ k) ∧ Aside0 (Below w.heap.size w w'))
  case atStart => exact ⟨(0), (0), (0), (0), (by first | rfl | (simp; done) | (simp [*]; done)), (by first | rfl | (simp; done) | (simp [*]; done)), (by first | rfl | (simp; done) | (simp [*]; done)), (by first | rfl | (simp; done) | (simp [*]; done)), H', ⟨Nat.le_refl _⟩, ⟨by repeat (first | (with_reducible first | exact HB.out | apply below_alloc | apply pw_below_drewN | apply below_drew1) | exact HB.out)⟩⟩
  case round =>
    clear H'
    try clear c1
    try clear p2
    try clear c4
    obtain ⟨x8_1, x9_1, x10_1, x20_1, rfl, rfl, rfl, rfl, HA, HK1, HB⟩ := hrel
    cases gk with
    | zero => exact absurd HA.out (by simp [racewaylaw09_BallotQuorums.l0])
    | succ k1 =>
      have H := HA.out
      clear HA
      simp only [racewaylaw09_BallotQuorums.l0] at H
      by_cases c5 : x20_1 < (wrap64 (1 + (Int.tmod (wrap64 ((Int.tmod a0 5) + 5)) 5)))
      · rw [if_pos c5] at H
        have c5b0 : decide (x20_1 < (wrap64 (1 + (Int.tmod (wrap64 ((Int.tmod a0 5) + 5)) 5)))) = true := decide_eq_true c5
        clear c5
        by_cases c6 : 0 ≤ x20_1
        · rw [if_pos c6] at H
          have c6b0 := eq_true c6
          have c6b1 : decide (0 ≤ x20_1) = true := decide_eq_true c6
          clear c6
          obtain ⟨ji7, hji7⟩ : ∃ j_ : Int, (shr .u8 a1 x20_1) = j_ := ⟨_, rfl⟩
          replace H : (if (Go.bits .and .u8 (ji7) 1) = 1 then (if (Go.bits .and .u8 (shr .u8 a2 x20_1) 1) = 1 then (racewaylaw09_BallotQuorums.l0 k1 (wrap64 (1 + (Int.tmod (wrap64 ((Int.tmod a0 5) + 5)) 5))) a1 a2 t154 (wrap64 (x8_1 + 1)) (wrap64 (x9_1 + 1)) (wrap64 (x10_1 + 1)) (wrap64 (1 + (Int.tmod (wrap64 ((Int.tmod a0 5) + 5)) 5))) (wrap64 (x20_1 + 1))) else (racewaylaw09_BallotQuorums.l0 k1 (wrap64 (1 + (Int.tmod (wrap64 ((Int.tmod a0 5) + 5)) 5))) a1 a2 t154 (wrap64 (x8_1 + 1)) x9_1 x10_1 (wrap64 (1 + (Int.tmod (wrap64 ((Int.tmod a0 5) + 5)) 5))) (wrap64 (x20_1 + 1)))) else (if (Go.bits .and .u8 (shr .u8 a2 x20_1) 1) = 1 then (racewaylaw09_BallotQuorums.l0 k1 (wrap64 (1 + (Int.tmod (wrap64 ((Int.tmod a0 5) + 5)) 5))) a1 a2 t154 x8_1 (wrap64 (x9_1 + 1)) x10_1 (wrap64 (1 + (Int.tmod (wrap64 ((Int.tmod a0 5) + 5)) 5))) (wrap64 (x20_1 + 1))) else (racewaylaw09_BallotQuorums.l0 k1 (wrap64 (1 + (Int.tmod (wrap64 ((Int.tmod a0 5) + 5)) 5))) a1 a2 t154 x8_1 x9_1 x10_1 (wrap64 (1 + (Int.tmod (wrap64 ((Int.tmod a0 5) + 5)) 5))) (wrap64 (x20_1 + 1))))) = some r := by first | (rw [hji7] at H; exact H) | (simp only [hji7] at H ⊢; exact H)
          have hji7_ : (a1 / 2 ^ min x20_1.toNat 8) = ji7 := hji7
          have hji7z : x20_1 ≤ 8 → (a1 / 2 ^ x20_1.toNat) = ji7 := shr_small hji7
          by_cases c8 : (Go.bits .and .u8 (ji7) 1) = 1
          · rw [if_pos c8] at H
            have c8b0 : ((Go.bits .and .u8 (ji7) 1) == 1) = true := beq_iff_eq.mpr c8
            have c8b1 : ((Go.bits .and .u8 (ji7) 1) != 1) = false := bne_eq_false_iff_eq.mpr c8
            clear c8
            have c9b0 := eq_true (of_decide_eq_true (by first | (with_reducible assumption) | assumption) : 0 ≤ x20_1)
            obtain ⟨ji10, hji10⟩ : ∃ j_ : Int, (shr .u8 a2 x20_1) = j_ := ⟨_, rfl⟩
            replace H : (if (Go.bits .and .u8 (ji10) 1) = 1 then (racewaylaw09_BallotQuorums.l0 k1 (wrap64 (1 + (Int.tmod (wrap64 ((Int.tmod a0 5) + 5)) 5))) a1 a2 t154 (wrap64 (x8_1 + 1)) (wrap64 (x9_1 + 1)) (wrap64 (x10_1 + 1)) (wrap64 (1 + (Int.tmod (wrap64 ((Int.tmod a0 5) + 5)) 5))) (wrap64 (x20_1 + 1))) else (racewaylaw09_BallotQuorums.l0 k1 (wrap64 (1 + (Int.tmod (wrap64 ((Int.tmod a0 5) + 5)) 5))) a1 a2 t154 (wrap64 (x8_1 + 1)) x9_1 x10_1 (wrap64 (1 + (Int.tmod (wrap64 ((Int.tmod a0 5) + 5)) 5))) (wrap64 (x20_1 + 1)))) = some r := by first | (rw [hji10] at H; exact H) | (simp only [hji10] at H ⊢; exact H)
            have hji10_ : (a2 / 2 ^ min x20_1.toNat 8) = ji10 := hji10
            have hji10z : x20_1 ≤ 8 → (a2 / 2 ^ x20_1.toNat) = ji10 := shr_small hji10
            by_cases c11 : (Go.bits .and .u8 (ji10) 1) = 1
            · rw [if_pos c11] at H
              have c11b0 : ((Go.bits .and .u8 (ji10) 1) == 1) = true := beq_iff_eq.mpr c11
              have c11b1 : ((Go.bits .and .u8 (ji10) 1) != 1) = false := bne_eq_false_iff_eq.mpr c11
              clear c11
              have c12b0 := eq_true (of_decide_eq_true (by first | (with_reducible assumption) | assumption) : 0 ≤ x20_1)
              have c14b0 := eq_true (of_decide_eq_true (by first | (with_reducible assumption) | assumption) : 0 ≤ x20_1)
              have H' := Aside0.mk H
              clear H
              go_wp2
              go_roundg k1
              case measure => have := HK1.out; omega
              case rel => exact ⟨(wrap64 (x8_1 + 1)), (wrap64 (x9_1 + 1)), (wrap64 (x10_1 + 1)), (wrap64 (x20_1 + 1)), (by first | rfl | (simp; done) | (simp [*]; done)), (by first | rfl | (simp; done) | (simp [*]; done)), (by first | rfl | (simp; done) | (simp [*]; done)), (by first | rfl | (simp; done) | (simp [*]; done)), H', ⟨by have := HK1.out; omega⟩, ⟨by repeat (first | (with_reducible first | exact HB.out | apply below_alloc | apply pw_below_drewN | apply below_drew1) | exact HB.out)⟩⟩
            · rw [if_neg c11] at H
              have c11b0 : ((Go.bits .and .u8 (ji10) 1) == 1) = false := beq_eq_false_iff_ne.mpr c11
              have c11b1 : ((Go.bits .and .u8 (ji10) 1) != 1) = true := bne_iff_ne.mpr c11
              have c16b0 := eq_true (of_decide_eq_true (by first | (with_reducible assumption) | assumption) : 0 ≤ x20_1)
              have c18b0 := eq_true (of_decide_eq_true (by first | (with_reducible assumption) | assumption) : 0 ≤ x20_1)
              have H' := Aside0.mk H
              clear H
              go_wp2
              go_roundg k1
              case measure => have := HK1.out; omega
              case rel => exact ⟨(wrap64 (x8_1 + 1)), (x9_1), (x10_1), (wrap64 (x20_1 + 1)), (by first | rfl | (simp; done) | (simp [*]; done)), (by first | rfl | (simp; done) | (simp [*]; done)), (by first | rfl | (simp; done) | (simp [*]; done)), (by first | rfl | (simp; done) | (simp [*]; done)), H', ⟨by have := HK1.out; omega⟩, ⟨by repeat (first | (with_reducible first | exact HB.out | apply below_alloc | apply pw_below_drewN | apply below_drew1) | exact HB.out)⟩⟩
          · rw [if_neg c8] at H
            have c8b0 : ((Go.bits .and .u8 (ji7) 1) == 1) = false := beq_eq_false_iff_ne.mpr c8
            have c8b1 : ((Go.bits .and .u8 (ji7) 1) != 1) = true := bne_iff_ne.mpr c8
            have c20b0 := eq_true (of_decide_eq_true (by first | (with_reducible assumption) | assumption) : 0 ≤ x20_1)
            obtain ⟨ji21, hji21⟩ : ∃ j_ : Int, (shr .u8 a2 x20_1) = j_ := ⟨_, rfl⟩
            replace H : (if (Go.bits .and .u8 (ji21) 1) = 1 then (racewaylaw09_BallotQuorums.l0 k1 (wrap64 (1 + (Int.tmod (wrap64 ((Int.tmod a0 5) + 5)) 5))) a1 a2 t154 x8_1 (wrap64 (x9_1 + 1)) x10_1 (wrap64 (1 + (Int.tmod (wrap64 ((Int.tmod a0 5) + 5)) 5))) (wrap64 (x20_1 + 1))) else (racewaylaw09_BallotQuorums.l0 k1 (wrap64 (1 + (Int.tmod (wrap64 ((Int.tmod a0 5) + 5)) 5))) a1 a2 t154 x8_1 x9_1 x10_1 (wrap64 (1 + (Int.tmod (wrap64 ((Int.tmod a0 5) + 5)) 5))) (wrap64 (x20_1 + 1)))) = some r := by first | (rw [hji21] at H; exact H) | (simp only [hji21] at H ⊢; exact H)
            have hji21_ : (a2 / 2 ^ min x20_1.toNat 8) = ji21 := hji21
            have hji21z : x20_1 ≤ 8 → (a2 / 2 ^ x20_1.toNat) = ji21 := shr_small hji21
            by_cases c22 : (Go.bits .and .u8 (ji21) 1) = 1
            · rw [if_pos c22] at H
              have c22b0 : ((Go.bits .and .u8 (ji21) 1) == 1) = true := beq_iff_eq.mpr c22
              have c22b1 : ((Go.bits .and .u8 (ji21) 1) != 1) = false := bne_eq_false_iff_eq.mpr c22
              clear c22
              have c23b0 := eq_true (of_decide_eq_true (by first | (with_reducible assumption) | assumption) : 0 ≤ x20_1)
              have H' := Aside0.mk H
              clear H
              go_wp2
              go_roundg k1
              case measure => have := HK1.out; omega
              case rel => exact ⟨(x8_1), (wrap64 (x9_1 + 1)), (x10_1), (wrap64 (x20_1 + 1)), (by first | rfl | (simp; done) | (simp [*]; done)), (by first | rfl | (simp; done) | (simp [*]; done)), (by first | rfl | (simp; done) | (simp [*]; done)), (by first | rfl | (simp; done) | (simp [*]; done)), H', ⟨by have := HK1.out; omega⟩, ⟨by repeat (first | (with_reducible first | exact HB.out | apply below_alloc | apply pw_below_drewN | apply below_drew1) | exact HB.out)⟩⟩
            · rw [if_neg c22] at H
              have c22b0 : ((Go.bits .and .u8 (ji21) 1) == 1) = false := beq_eq_false_iff_ne.mpr c22
              have c22b1 : ((Go.bits .and .u8 (ji21) 1) != 1) = true := bne_iff_ne.mpr c22
              have c25b0 := eq_true (of_decide_eq_true (by first | (with_reducible assumption) | assumption) : 0 ≤ x20_1)
              have H' := Aside0.mk H
              clear H
              go_wp2
              go_roundg k1
              case measure => have := HK1.out; omega
              case rel => exact ⟨(x8_1), (x9_1), (x10_1), (wrap64 (x20_1 + 1)), (by first | rfl | (simp; done) | (simp [*]; done)), (by first | rfl | (simp; done) | (simp [*]; done)), (by first | rfl | (simp; done) | (simp [*]; done)), (by first | rfl | (simp; done) | (simp [*]; done)), H', ⟨by have := HK1.out; omega⟩, ⟨by repeat (first | (with_reducible first | exact HB.out | apply below_alloc | apply pw_below_drewN | apply below_drew1) | exact HB.out)⟩⟩
        · rw [if_neg c6] at H
          exact absurd H (by simp)
      · rw [if_neg c5] at H
        have c5b0 : decide (x20_1 < (wrap64 (1 + (Int.tmod (wrap64 ((Int.tmod a0 5) + 5)) 5)))) = false := decide_eq_false c5
        clear c5
        by_cases c27 : x8_1 < t154
        · rw [if_pos c27] at H
          have c27b0 : decide (x8_1 < t154) = true := decide_eq_true c27
          clear c27
          by_cases c28 : t154 ≤ (wrap64 (1 + (Int.tmod (wrap64 ((Int.tmod a0 5) + 5)) 5)))
          · rw [if_pos c28] at H
            have c28b0 : decide (t154 ≤ (wrap64 (1 + (Int.tmod (wrap64 ((Int.tmod a0 5) + 5)) 5)))) = true := decide_eq_true c28
            clear c28
            by_cases c29 : (wrap64 (2 * (wrap64 (t154 - 1)))) ≤ (wrap64 (1 + (Int.tmod (wrap64 ((Int.tmod a0 5) + 5)) 5)))
            · rw [if_pos c29] at H
              have c29b0 : decide ((wrap64 (2 * (wrap64 (t154 - 1)))) ≤ (wrap64 (1 + (Int.tmod (wrap64 ((Int.tmod a0 5) + 5)) 5)))) = true := decide_eq_true c29
              clear c29
              replace H := Option.bind_eq_some_iff.mp H
              obtain ⟨t155, A300, H⟩ := H
              replace H : (some t155) = some r := H
              have A30 := Aside0.mk A300
              clear A300
              obtain rfl := Option.some.inj H
              go_wp2_with (first | (go_at_call 14; (with_reducible refine (racewaylaw09_works.calls  t155 _ A30.out).mono ?_); rintro e w31 ⟨rfl, hb⟩; have n0_ := Aside0.mk (below_step (by repeat (first | (with_reducible first | exact HB.out | apply below_alloc | apply pw_below_drewN | apply below_drew1) | exact HB.out)) hb); clear HB; have HB := n0_; clear n0_; (try clear hb); (try clear hb2); (try clear hk); (try clear hi)))
              go_ret
              exact ⟨by first | rfl | (simp [errW_none, errW_some] <;> rfl) | (simp [*, errW_none, errW_some] <;> rfl), by repeat (first | (with_reducible first | exact HB.out | apply below_alloc | apply pw_below_drewN | apply below_drew1) | exact HB.out)⟩
            · rw [if_neg c29] at H
              have c29b0 : decide ((wrap64 (2 * (wrap64 (t154 - 1)))) ≤ (wrap64 (1 + (Int.tmod (wrap64 ((Int.tmod a0 5) + 5)) 5)))) = false := decide_eq_false c29
              clear c29
              exact absurd (Option.some.inj H) (by rw [hrt.out]; decide)
          · rw [if_neg c28] at H
            have c28b0 : decide (t154 ≤ (wrap64 (1 + (Int.tmod (wrap64 ((Int.tmod a0 5) + 5)) 5)))) = false := decide_eq_false c28
            clear c28
            exact absurd (Option.some.inj H) (by rw [hrt.out]; decide)
        · rw [if_neg c27] at H
          have c27b0 : decide (x8_1 < t154) = false := decide_eq_false c27
          clear c27
          by_cases c32 : x9_1 < t154
          · rw [if_pos c32] at H
            have c32b0 : decide (x9_1 < t154) = true := decide_eq_true c32
            clear c32
            by_cases c33 : t154 ≤ (wrap64 (1 + (Int.tmod (wrap64 ((Int.tmod a0 5) + 5)) 5)))
            · rw [if_pos c33] at H
              have c33b0 : decide (t154 ≤ (wrap64 (1 + (Int.tmod (wrap64 ((Int.tmod a0 5) + 5)) 5)))) = true := decide_eq_true c33
              clear c33
              by_cases c34 : (wrap64 (2 * (wrap64 (t154 - 1)))) ≤ (wrap64 (1 + (Int.tmod (wrap64 ((Int.tmod a0 5) + 5)) 5)))
              · rw [if_pos c34] at H
                have c34b0 : decide ((wrap64 (2 * (wrap64 (t154 - 1)))) ≤ (wrap64 (1 + (Int.tmod (wrap64 ((Int.tmod a0 5) + 5)) 5)))) = true := decide_eq_true c34
                clear c34
                replace H := Option.bind_eq_some_iff.mp H
                obtain ⟨t156, A350, H⟩ := H
                replace H : (some t156) = some r := H
                have A35 := Aside0.mk A350
                clear A350
                obtain rfl := Option.some.inj H
                go_wp2_with (first | (go_at_call 14; (with_reducible refine (racewaylaw09_works.calls  t156 _ A35.out).mono ?_); rintro e w36 ⟨rfl, hb⟩; have n0_ := Aside0.mk (below_step (by repeat (first | (with_reducible first | exact HB.out | apply below_alloc | apply pw_below_drewN | apply below_drew1) | exact HB.out)) hb); clear HB; have HB := n0_; clear n0_; (try clear hb); (try clear hb2); (try clear hk); (try clear hi)))
                go_ret
                exact ⟨by first | rfl | (simp [errW_none, errW_some] <;> rfl) | (simp [*, errW_none, errW_some] <;> rfl), by repeat (first | (with_reducible first | exact HB.out | apply below_alloc | apply pw_below_drewN | apply below_drew1) | exact HB.out)⟩
              · rw [if_neg c34] at H
                have c34b0 : decide ((wrap64 (2 * (wrap64 (t154 - 1)))) ≤ (wrap64 (1 + (Int.tmod (wrap64 ((Int.tmod a0 5) + 5)) 5)))) = false := decide_eq_false c34
                clear c34
                exact absurd (Option.some.inj H) (by rw [hrt.out]; decide)
            · rw [if_neg c33] at H
              have c33b0 : decide (t154 ≤ (wrap64 (1 + (Int.tmod (wrap64 ((Int.tmod a0 5) + 5)) 5)))) = false := decide_eq_false c33
              clear c33
              exact absurd (Option.some.inj H) (by rw [hrt.out]; decide)
          · rw [if_neg c32] at H
            have c32b0 : decide (x9_1 < t154) = false := decide_eq_false c32
            clear c32
            by_cases c37 : x10_1 > 0
            · rw [if_pos c37] at H
              have c37b0 : decide (0 < x10_1) = true := decide_eq_true c37
              clear c37
              by_cases c38 : t154 ≤ (wrap64 (1 + (Int.tmod (wrap64 ((Int.tmod a0 5) + 5)) 5)))
              · rw [if_pos c38] at H
                have c38b0 : decide (t154 ≤ (wrap64 (1 + (Int.tmod (wrap64 ((Int.tmod a0 5) + 5)) 5)))) = true := decide_eq_true c38
                clear c38
                by_cases c39 : (wrap64 (2 * (wrap64 (t154 - 1)))) ≤ (wrap64 (1 + (Int.tmod (wrap64 ((Int.tmod a0 5) + 5)) 5)))
                · rw [if_pos c39] at H
                  have c39b0 : decide ((wrap64 (2 * (wrap64 (t154 - 1)))) ≤ (wrap64 (1 + (Int.tmod (wrap64 ((Int.tmod a0 5) + 5)) 5)))) = true := decide_eq_true c39
                  clear c39
                  replace H := Option.bind_eq_some_iff.mp H
                  obtain ⟨t157, A400, H⟩ := H
                  replace H : (some t157) = some r := H
                  have A40 := Aside0.mk A400
                  clear A400
                  obtain rfl := Option.some.inj H
                  go_wp2_with (first | (go_at_call 14; (with_reducible refine (racewaylaw09_works.calls  t157 _ A40.out).mono ?_); rintro e w41 ⟨rfl, hb⟩; have n0_ := Aside0.mk (below_step (by repeat (first | (with_reducible first | exact HB.out | apply below_alloc | apply pw_below_drewN | apply below_drew1) | exact HB.out)) hb); clear HB; have HB := n0_; clear n0_; (try clear hb); (try clear hb2); (try clear hk); (try clear hi)))
                  go_ret
                  exact ⟨by first | rfl | (simp [errW_none, errW_some] <;> rfl) | (simp [*, errW_none, errW_some] <;> rfl), by repeat (first | (with_reducible first | exact HB.out | apply below_alloc | apply pw_below_drewN | apply below_drew1) | exact HB.out)⟩
                · rw [if_neg c39] at H
                  have c39b0 : decide ((wrap64 (2 * (wrap64 (t154 - 1)))) ≤ (wrap64 (1 + (Int.tmod (wrap64 ((Int.tmod a0 5) + 5)) 5)))) = false := decide_eq_false c39
                  clear c39
                  exact absurd (Option.some.inj H) (by rw [hrt.out]; decide)
              · rw [if_neg c38] at H
                have c38b0 : decide (t154 ≤ (wrap64 (1 + (Int.tmod (wrap64 ((Int.tmod a0 5) + 5)) 5)))) = false := decide_eq_false c38
                clear c38
                exact absurd (Option.some.inj H) (by rw [hrt.out]; decide)
            · rw [if_neg c37] at H
              have c37b0 : decide (0 < x10_1) = false := decide_eq_false c37
              clear c37
              exact absurd (Option.some.inj H) (by rw [hrt.out]; decide)
-- LAW racewaylaw09_BallotQuorums

end Go.Proofs.Ytjofllllnmfneaa.P
