-- Written by the session's own program (wip/tools/myprint.py), over the kit's printer. Lean checks it.
import Derived.Test.YtimlagmgcfaepaaP0
import Derived.Test.YtimlagmgcfaepaaP2
import Derived.Test.YtimlagmgcfaepaaP3
import Derived.Test.YtimlagmgcfaepaaP7
namespace Go.Proofs.Ytimlagmgcfaepaa.P
open Go.RowKit Go.Proofs.YtimlagmgcfaepaaW.PrintWords Go.Proofs.YtimlagmgcfaepaaW.PrintLast Go.Proofs.YtimlagmgcfaepaaW.PrintMore
attribute [local go_sem] max2_int min2_int max_two min_two max_three min_three max_four min_four   -- for this text's walks alone
set_option linter.unusedVariables false
set_option linter.unusedSimpArgs false

/-! ### racewaylaw04_PlaceOf: function 3 -/
def racewaylaw04_PlaceOf.f (k : Nat) (a0 : ByteArray) : Option (Bool) := if 0 ≤ (mn (a0.size : Int) 3000) then (if (mn (a0.size : Int) 3000) ≤ (a0.size : Int) then ((place_Of.f k (a0.extract 0 ((mn (a0.size : Int) 3000) : Int).toNat)).bind fun t117 => ((racewayref04_Of.f k (a0.extract 0 ((mn (a0.size : Int) 3000) : Int).toNat)).bind fun t118 => (if t117 = t118 then (if t117 ≥ 0 then (if t117 < 65536 then ((racewaylaw04_works.f k).bind fun t119 => (some t119)) else (some false)) else (some false)) else (some false)))) else (none)) else (none)
theorem racewaylaw04_PlaceOf.mono : ∀ a0 k, LeO (racewaylaw04_PlaceOf.f k a0) (racewaylaw04_PlaceOf.f (k + 1) a0) := by
  intro a0 k
  unfold racewaylaw04_PlaceOf.f
  repeat' first
      | (with_reducible exact place_Of.mono _ _)
      | (with_reducible exact racewaylaw04_works.mono _)
      | (with_reducible exact racewayref04_Of.mono _ _)
      | (with_reducible exact LeO.refl _)
      | (with_reducible exact LeO.none _)
      | (with_reducible refine LeO.ite ?_ ?_)
      | (with_reducible refine LeO.bind ?_ (fun _ => ?_))
      | exact place_Of.mono _ _
      | exact racewaylaw04_works.mono _
      | exact racewayref04_Of.mono _ _
      | exact LeO.none _
      | refine LeO.ite ?_ ?_
      | refine LeO.bind ?_ (fun _ => ?_)
set_option maxHeartbeats 8000000 in
set_option maxRecDepth 100000 in
theorem racewaylaw04_PlaceOf.calls (k : Nat) (a0 : ByteArray) (r : Bool) (w : World) (h : racewaylaw04_PlaceOf.f k a0 = some r) (hrt : Aside0 (r = true)) :
    Calls Try.prog 3 #[.string a0] w fun e w' => e = .returned (.bool r) ∧ Below w.heap.size w w' := by
  have HB := Aside0.mk (Below.refl w.heap.size w)
  have H : (if 0 ≤ (mn (a0.size : Int) 3000) then (if (mn (a0.size : Int) 3000) ≤ (a0.size : Int) then ((place_Of.f k (a0.extract 0 ((mn (a0.size : Int) 3000) : Int).toNat)).bind fun t117 => ((racewayref04_Of.f k (a0.extract 0 ((mn (a0.size : Int) 3000) : Int).toNat)).bind fun t118 => (if t117 = t118 then (if t117 ≥ 0 then (if t117 < 65536 then ((racewaylaw04_works.f k).bind fun t119 => (some t119)) else (some false)) else (some false)) else (some false)))) else (none)) else (none)) = some r := h
  clear h
  obtain ⟨ji2, hji2⟩ : ∃ j_ : Int, (mn (a0.size : Int) 3000) = j_ := ⟨_, rfl⟩
  replace H : (if 0 ≤ (ji2) then (if (ji2) ≤ (a0.size : Int) then ((place_Of.f k (a0.extract 0 ((ji2) : Int).toNat)).bind fun t117 => ((racewayref04_Of.f k (a0.extract 0 ((ji2) : Int).toNat)).bind fun t118 => (if t117 = t118 then (if t117 ≥ 0 then (if t117 < 65536 then ((racewaylaw04_works.f k).bind fun t119 => (some t119)) else (some false)) else (some false)) else (some false)))) else (none)) else (none)) = some r := by first | (rw [hji2] at H; exact H) | (simp only [hji2] at H ⊢; exact H)
  (try (have hji2h : ji2 ≤ 3000 := by (rw [← hji2]; unfold mn; (repeat' split) <;> omega)))
  (try (have hji2g : ji2 ≤ 64 := by omega))
  (try (have hji2l : 0 ≤ ji2 := by (rw [← hji2]; unfold mn; (repeat' split) <;> omega)))
  (try (have hji2m : 0 ≤ ji2 := by omega))
  have hji2_ : (if 3000 < (a0.size : Int) then 3000 else (a0.size : Int)) = ji2 := hji2
  by_cases c3 : 0 ≤ (ji2)
  · rw [if_pos c3] at H
    have c3b0 := eq_true c3
    have c3b1 : decide (0 ≤ (ji2)) = true := decide_eq_true c3
    clear c3
    by_cases c4 : (ji2) ≤ (a0.size : Int)
    · rw [if_pos c4] at H
      have c4b0 := eq_true c4
      have c4b1 : decide ((ji2) ≤ (a0.size : Int)) = true := decide_eq_true c4
      clear c4
      replace H := Option.bind_eq_some_iff.mp H
      obtain ⟨t117, A50, H⟩ := H
      replace H : ((racewayref04_Of.f k (a0.extract 0 ((ji2) : Int).toNat)).bind fun t118 => (if t117 = t118 then (if t117 ≥ 0 then (if t117 < 65536 then ((racewaylaw04_works.f k).bind fun t119 => (some t119)) else (some false)) else (some false)) else (some false))) = some r := H
      have A5 := Aside0.mk A50
      clear A50
      replace H := Option.bind_eq_some_iff.mp H
      obtain ⟨t118, A60, H⟩ := H
      replace H : (if t117 = t118 then (if t117 ≥ 0 then (if t117 < 65536 then ((racewaylaw04_works.f k).bind fun t119 => (some t119)) else (some false)) else (some false)) else (some false)) = some r := H
      have A6 := Aside0.mk A60
      clear A60
      by_cases c7 : t117 = t118
      · rw [if_pos c7] at H
        have c7b0 : (t117 == t118) = true := beq_iff_eq.mpr c7
        have c7b1 : (t117 != t118) = false := bne_eq_false_iff_eq.mpr c7
        clear c7
        by_cases c8 : t117 ≥ 0
        · rw [if_pos c8] at H
          have c8b0 : decide (0 ≤ t117) = true := decide_eq_true c8
          clear c8
          by_cases c9 : t117 < 65536
          · rw [if_pos c9] at H
            have c9b0 : decide (t117 < 65536) = true := decide_eq_true c9
            clear c9
            replace H := Option.bind_eq_some_iff.mp H
            obtain ⟨t119, A100, H⟩ := H
            replace H : (some t119) = some r := H
            have A10 := Aside0.mk A100
            clear A100
            obtain rfl := Option.some.inj H
            go_enter Try.func3, Try.ntmps3
            go_wp2_with (first | ((with_reducible refine gate_callee (f := 10) rfl ?_); refine goesL_ (some 10) rfl rfl Try.func10 (by kernel_rfl) rfl #[.string (a0.extract 0 ((ji2) : Int).toNat)] rfl (by (try simp only [List.map_toArray, List.map_cons, List.map_nil]); first | done | (simp only [hji2]; rfl) | rfl | (simp only [List.length_drop, List.length_take]; rfl)) ?_; (with_reducible refine (place_Of.calls k (a0.extract 0 ((ji2) : Int).toNat) t117 _ A5.out).mono ?_); rintro e w' ⟨rfl, ⟨nd, rfl⟩⟩; refine ⟨_, rfl, ?_⟩) | ((with_reducible refine gate_callee (f := 11) rfl ?_); refine goesL_ (some 13) rfl rfl Try.func11 (by kernel_rfl) rfl #[.string (a0.extract 0 ((ji2) : Int).toNat)] rfl (by (try simp only [List.map_toArray, List.map_cons, List.map_nil]); first | done | (simp only [hji2]; rfl) | rfl | (simp only [List.length_drop, List.length_take]; rfl)) ?_; (with_reducible refine (racewayref04_Of.calls k (a0.extract 0 ((ji2) : Int).toNat) t118 _ A6.out).mono ?_); rintro e w' ⟨rfl, ⟨nd, rfl⟩⟩; refine ⟨_, rfl, ?_⟩) | (go_at_call 12; (with_reducible refine (racewaylaw04_works.calls k  t119 _ A10.out).mono ?_); rintro e w11 ⟨rfl, hb⟩; have n0_ := Aside0.mk (below_step (by repeat (first | (with_reducible first | exact HB.out | apply below_alloc | apply pw_below_drewN | apply below_drew1) | exact HB.out)) hb); clear HB; have HB := n0_; clear n0_; (try clear hb); (try clear hb2); (try clear hk); (try clear hi)))
            go_ret
            exact ⟨by first | rfl | (simp [errW_none, errW_some] <;> rfl) | (simp only [← hji2]; first | rfl | (simp [errW_none, errW_some] <;> rfl)) | (simp [*, errW_none, errW_some] <;> rfl), by repeat (first | (with_reducible first | exact HB.out | apply below_alloc | apply pw_below_drewN | apply below_drew1) | exact HB.out)⟩
          · rw [if_neg c9] at H
            have c9b0 : decide (t117 < 65536) = false := decide_eq_false c9
            clear c9
            exact absurd (Option.some.inj H) (by rw [hrt.out]; decide)
        · rw [if_neg c8] at H
          have c8b0 : decide (0 ≤ t117) = false := decide_eq_false c8
          clear c8
          exact absurd (Option.some.inj H) (by rw [hrt.out]; decide)
      · rw [if_neg c7] at H
        have c7b0 : (t117 == t118) = false := beq_eq_false_iff_ne.mpr c7
        have c7b1 : (t117 != t118) = true := bne_iff_ne.mpr c7
        exact absurd (Option.some.inj H) (by rw [hrt.out]; decide)
    · rw [if_neg c4] at H
      exact absurd H (by simp)
  · rw [if_neg c3] at H
    exact absurd H (by simp)
-- LAW racewaylaw04_PlaceOf

end Go.Proofs.Ytimlagmgcfaepaa.P
