-- Written by the session's own program (wip/tools/myprint.py), over the kit's printer. Lean checks it.
import Derived.Test.YtjofllllnmfneaaP0
import Derived.Test.YtjofllllnmfneaaP2
import Derived.Test.YtjofllllnmfneaaP3
import Derived.Test.YtjofllllnmfneaaP4
import Derived.Test.YtjofllllnmfneaaP8
import Derived.Test.YtjofllllnmfneaaP11
namespace Go.Proofs.Ytjofllllnmfneaa.P
open Go.RowKit Go.Proofs.YtjofllllnmfneaaW.PrintWords Go.Proofs.YtjofllllnmfneaaW.PrintLast Go.Proofs.YtjofllllnmfneaaW.PrintMore
attribute [local go_sem] max2_int min2_int max_two min_two max_three min_three max_four min_four   -- for this text's walks alone
set_option linter.unusedVariables false
set_option linter.unusedSimpArgs false

/-! ### racewaylaw09_BallotNexts: function 8 -/
def racewaylaw09_BallotNexts.f (a0 : Int) (a1 : Int) : Option (Bool) := (ballot_Next.f a0 a1).bind fun bt145 => (if bt145.2 = 0 then (if bt145.1 ≤ a0 then (some false) else ((ballot_Node.f bt145.1).bind fun t147 => (if t147 = a1 then (if a0 < 0 then (some false) else ((ballot_Round.f bt145.1).bind fun t148 => ((ballot_Make.f (wrap64 (t148 - 1)) a1).bind fun bt149 => (if bt149.2 = 0 then (if bt149.1 ≤ a0 then ((racewaylaw09_works.f).bind fun t151 => (some t151)) else (some false)) else ((racewaylaw09_works.f).bind fun t152 => (some t152)))))) else (some false)))) else (if bt145.1 = 0 then (if bt145.2 = 2 then ((racewaylaw09_works.f).bind fun t153 => (some t153)) else (some false)) else (some false)))
set_option maxHeartbeats 8000000 in
set_option maxRecDepth 100000 in
theorem racewaylaw09_BallotNexts.calls (a0 : Int) (a1 : Int) (r : Bool) (w : World) (h : racewaylaw09_BallotNexts.f a0 a1 = some r) (hrt : Aside0 (r = true)) :
    Calls Try.prog 8 #[.int .i64 a0, .int .i64 a1] w fun e w' => e = .returned (.bool r) ∧ Below w.heap.size w w' := by
  have HB := Aside0.mk (Below.refl w.heap.size w)
  have H : ((ballot_Next.f a0 a1).bind fun bt145 => (if bt145.2 = 0 then (if bt145.1 ≤ a0 then (some false) else ((ballot_Node.f bt145.1).bind fun t147 => (if t147 = a1 then (if a0 < 0 then (some false) else ((ballot_Round.f bt145.1).bind fun t148 => ((ballot_Make.f (wrap64 (t148 - 1)) a1).bind fun bt149 => (if bt149.2 = 0 then (if bt149.1 ≤ a0 then ((racewaylaw09_works.f).bind fun t151 => (some t151)) else (some false)) else ((racewaylaw09_works.f).bind fun t152 => (some t152)))))) else (some false)))) else (if bt145.1 = 0 then (if bt145.2 = 2 then ((racewaylaw09_works.f).bind fun t153 => (some t153)) else (some false)) else (some false)))) = some r := h
  clear h
  replace H := Option.bind_eq_some_iff.mp H
  obtain ⟨⟨t145, t146⟩, A30, H⟩ := H
  replace H : (if t146 = 0 then (if t145 ≤ a0 then (some false) else ((ballot_Node.f t145).bind fun t147 => (if t147 = a1 then (if a0 < 0 then (some false) else ((ballot_Round.f t145).bind fun t148 => ((ballot_Make.f (wrap64 (t148 - 1)) a1).bind fun bt149 => (if bt149.2 = 0 then (if bt149.1 ≤ a0 then ((racewaylaw09_works.f).bind fun t151 => (some t151)) else (some false)) else ((racewaylaw09_works.f).bind fun t152 => (some t152)))))) else (some false)))) else (if t145 = 0 then (if t146 = 2 then ((racewaylaw09_works.f).bind fun t153 => (some t153)) else (some false)) else (some false))) = some r := H
  have A3 := Aside0.mk A30
  clear A30
  by_cases c4 : t146 = 0
  · rw [if_pos c4] at H
    have c4b0 : (t146 == 0) = true := beq_iff_eq.mpr c4
    have c4b1 : (t146 != 0) = false := bne_eq_false_iff_eq.mpr c4
    clear c4
    by_cases c5 : t145 ≤ a0
    · rw [if_pos c5] at H
      have c5b0 : decide (t145 ≤ a0) = true := decide_eq_true c5
      clear c5
      exact absurd (Option.some.inj H) (by rw [hrt.out]; decide)
    · rw [if_neg c5] at H
      have c5b0 : decide (t145 ≤ a0) = false := decide_eq_false c5
      clear c5
      replace H := Option.bind_eq_some_iff.mp H
      obtain ⟨t147, A60, H⟩ := H
      replace H : (if t147 = a1 then (if a0 < 0 then (some false) else ((ballot_Round.f t145).bind fun t148 => ((ballot_Make.f (wrap64 (t148 - 1)) a1).bind fun bt149 => (if bt149.2 = 0 then (if bt149.1 ≤ a0 then ((racewaylaw09_works.f).bind fun t151 => (some t151)) else (some false)) else ((racewaylaw09_works.f).bind fun t152 => (some t152)))))) else (some false)) = some r := H
      have A6 := Aside0.mk A60
      clear A60
      by_cases c7 : t147 = a1
      · rw [if_pos c7] at H
        have c7b0 : (t147 == a1) = true := beq_iff_eq.mpr c7
        have c7b1 : (t147 != a1) = false := bne_eq_false_iff_eq.mpr c7
        clear c7
        by_cases c8 : a0 < 0
        · rw [if_pos c8] at H
          have c8b0 : decide (a0 < 0) = true := decide_eq_true c8
          clear c8
          exact absurd (Option.some.inj H) (by rw [hrt.out]; decide)
        · rw [if_neg c8] at H
          have c8b0 : decide (a0 < 0) = false := decide_eq_false c8
          clear c8
          replace H := Option.bind_eq_some_iff.mp H
          obtain ⟨t148, A90, H⟩ := H
          replace H : ((ballot_Make.f (wrap64 (t148 - 1)) a1).bind fun bt149 => (if bt149.2 = 0 then (if bt149.1 ≤ a0 then ((racewaylaw09_works.f).bind fun t151 => (some t151)) else (some false)) else ((racewaylaw09_works.f).bind fun t152 => (some t152)))) = some r := H
          have A9 := Aside0.mk A90
          clear A90
          replace H := Option.bind_eq_some_iff.mp H
          obtain ⟨⟨t149, t150⟩, A100, H⟩ := H
          replace H : (if t150 = 0 then (if t149 ≤ a0 then ((racewaylaw09_works.f).bind fun t151 => (some t151)) else (some false)) else ((racewaylaw09_works.f).bind fun t152 => (some t152))) = some r := H
          have A10 := Aside0.mk A100
          clear A100
          by_cases c11 : t150 = 0
          · rw [if_pos c11] at H
            have c11b0 : (t150 == 0) = true := beq_iff_eq.mpr c11
            have c11b1 : (t150 != 0) = false := bne_eq_false_iff_eq.mpr c11
            clear c11
            by_cases c12 : t149 ≤ a0
            · rw [if_pos c12] at H
              have c12b0 : decide (t149 ≤ a0) = true := decide_eq_true c12
              clear c12
              replace H := Option.bind_eq_some_iff.mp H
              obtain ⟨t151, A130, H⟩ := H
              replace H : (some t151) = some r := H
              have A13 := Aside0.mk A130
              clear A130
              obtain rfl := Option.some.inj H
              go_enter Try.func8, Try.ntmps8
              go_wp2_with (first | ((with_reducible refine gate_callee (f := 18) rfl ?_); refine goesL_ (some 12) rfl rfl Try.func18 (by kernel_rfl) rfl #[.int .i64 a0, .int .i64 a1] rfl (by (try simp only [List.map_toArray, List.map_cons, List.map_nil]); first | done | rfl | (simp only [List.length_drop, List.length_take]; rfl)) ?_; (with_reducible refine (ballot_Next.calls a0 a1 t145 t146 _ A3.out).mono ?_); rintro e w14 ⟨rfl, hb⟩; refine ⟨_, rfl, ?_⟩; have n0_ := Aside0.mk (below_step (by repeat (first | (with_reducible first | exact HB.out | apply below_alloc | apply pw_below_drewN | apply below_drew1) | exact HB.out)) hb); clear HB; have HB := n0_; clear n0_; (try clear hb); (try clear hb2); (try clear hk); (try clear hi)) | (go_at_call 22; (with_reducible refine (ballot_Node.calls t145 t147 _ A6.out).mono ?_); rintro e w' ⟨rfl, ⟨nd, rfl⟩⟩) | ((with_reducible refine gate_callee (f := 20) rfl ?_); refine goesL_ (some 41) rfl rfl Try.func20 (by kernel_rfl) rfl #[.int .i64 t145] rfl (by (try simp only [List.map_toArray, List.map_cons, List.map_nil]); first | done | rfl | (simp only [List.length_drop, List.length_take]; rfl)) ?_; (with_reducible refine (ballot_Round.calls t145 t148 _ A9.out).mono ?_); rintro e w' ⟨rfl, ⟨nd, rfl⟩⟩; refine ⟨_, rfl, ?_⟩) | ((with_reducible refine gate_callee (f := 16) rfl ?_); refine goesL_ (some 44) rfl rfl Try.func16 (by kernel_rfl) rfl #[.int .i64 (wrap64 (t148 - 1)), .int .i64 a1] rfl (by (try simp only [List.map_toArray, List.map_cons, List.map_nil]); first | done | rfl | (simp only [List.length_drop, List.length_take]; rfl)) ?_; (with_reducible refine (ballot_Make.calls (wrap64 (t148 - 1)) a1 t149 t150 _ A10.out).mono ?_); rintro e w' ⟨rfl, ⟨nd, rfl⟩⟩; refine ⟨_, rfl, ?_⟩) | (go_at_call 14; (with_reducible refine (racewaylaw09_works.calls  t151 _ A13.out).mono ?_); rintro e w15 ⟨rfl, hb⟩; have n0_ := Aside0.mk (below_step (by repeat (first | (with_reducible first | exact HB.out | apply below_alloc | apply pw_below_drewN | apply below_drew1) | exact HB.out)) hb); clear HB; have HB := n0_; clear n0_; (try clear hb); (try clear hb2); (try clear hk); (try clear hi)))
              go_ret
              exact ⟨by first | rfl | (simp [errW_none, errW_some] <;> rfl) | (simp [*, errW_none, errW_some] <;> rfl), by repeat (first | (with_reducible first | exact HB.out | apply below_alloc | apply pw_below_drewN | apply below_drew1) | exact HB.out)⟩
            · rw [if_neg c12] at H
              have c12b0 : decide (t149 ≤ a0) = false := decide_eq_false c12
              clear c12
              exact absurd (Option.some.inj H) (by rw [hrt.out]; decide)
          · rw [if_neg c11] at H
            have c11b0 : (t150 == 0) = false := beq_eq_false_iff_ne.mpr c11
            have c11b1 : (t150 != 0) = true := bne_iff_ne.mpr c11
            replace H := Option.bind_eq_some_iff.mp H
            obtain ⟨t152, A160, H⟩ := H
            replace H : (some t152) = some r := H
            have A16 := Aside0.mk A160
            clear A160
            obtain rfl := Option.some.inj H
            go_enter Try.func8, Try.ntmps8
            go_wp2_with (first | ((with_reducible refine gate_callee (f := 18) rfl ?_); refine goesL_ (some 12) rfl rfl Try.func18 (by kernel_rfl) rfl #[.int .i64 a0, .int .i64 a1] rfl (by (try simp only [List.map_toArray, List.map_cons, List.map_nil]); first | done | rfl | (simp only [List.length_drop, List.length_take]; rfl)) ?_; (with_reducible refine (ballot_Next.calls a0 a1 t145 t146 _ A3.out).mono ?_); rintro e w17 ⟨rfl, hb⟩; refine ⟨_, rfl, ?_⟩; have n0_ := Aside0.mk (below_step (by repeat (first | (with_reducible first | exact HB.out | apply below_alloc | apply pw_below_drewN | apply below_drew1) | exact HB.out)) hb); clear HB; have HB := n0_; clear n0_; (try clear hb); (try clear hb2); (try clear hk); (try clear hi)) | (go_at_call 22; (with_reducible refine (ballot_Node.calls t145 t147 _ A6.out).mono ?_); rintro e w' ⟨rfl, ⟨nd, rfl⟩⟩) | ((with_reducible refine gate_callee (f := 20) rfl ?_); refine goesL_ (some 41) rfl rfl Try.func20 (by kernel_rfl) rfl #[.int .i64 t145] rfl (by (try simp only [List.map_toArray, List.map_cons, List.map_nil]); first | done | rfl | (simp only [List.length_drop, List.length_take]; rfl)) ?_; (with_reducible refine (ballot_Round.calls t145 t148 _ A9.out).mono ?_); rintro e w' ⟨rfl, ⟨nd, rfl⟩⟩; refine ⟨_, rfl, ?_⟩) | ((with_reducible refine gate_callee (f := 16) rfl ?_); refine goesL_ (some 44) rfl rfl Try.func16 (by kernel_rfl) rfl #[.int .i64 (wrap64 (t148 - 1)), .int .i64 a1] rfl (by (try simp only [List.map_toArray, List.map_cons, List.map_nil]); first | done | rfl | (simp only [List.length_drop, List.length_take]; rfl)) ?_; (with_reducible refine (ballot_Make.calls (wrap64 (t148 - 1)) a1 t149 t150 _ A10.out).mono ?_); rintro e w' ⟨rfl, ⟨nd, rfl⟩⟩; refine ⟨_, rfl, ?_⟩) | (go_at_call 14; (with_reducible refine (racewaylaw09_works.calls  t152 _ A16.out).mono ?_); rintro e w18 ⟨rfl, hb⟩; have n0_ := Aside0.mk (below_step (by repeat (first | (with_reducible first | exact HB.out | apply below_alloc | apply pw_below_drewN | apply below_drew1) | exact HB.out)) hb); clear HB; have HB := n0_; clear n0_; (try clear hb); (try clear hb2); (try clear hk); (try clear hi)))
            go_ret
            exact ⟨by first | rfl | (simp [errW_none, errW_some] <;> rfl) | (simp [*, errW_none, errW_some] <;> rfl), by repeat (first | (with_reducible first | exact HB.out | apply below_alloc | apply pw_below_drewN | apply below_drew1) | exact HB.out)⟩
      · rw [if_neg c7] at H
        have c7b0 : (t147 == a1) = false := beq_eq_false_iff_ne.mpr c7
        have c7b1 : (t147 != a1) = true := bne_iff_ne.mpr c7
        exact absurd (Option.some.inj H) (by rw [hrt.out]; decide)
  · rw [if_neg c4] at H
    have c4b0 : (t146 == 0) = false := beq_eq_false_iff_ne.mpr c4
    have c4b1 : (t146 != 0) = true := bne_iff_ne.mpr c4
    by_cases c19 : t145 = 0
    · rw [if_pos c19] at H
      have c19b0 : (t145 == 0) = true := beq_iff_eq.mpr c19
      have c19b1 : (t145 != 0) = false := bne_eq_false_iff_eq.mpr c19
      clear c19
      by_cases c20 : t146 = 2
      · rw [if_pos c20] at H
        have c20b0 : (t146 == 2) = true := beq_iff_eq.mpr c20
        have c20b1 : (t146 != 2) = false := bne_eq_false_iff_eq.mpr c20
        clear c20
        replace H := Option.bind_eq_some_iff.mp H
        obtain ⟨t153, A210, H⟩ := H
        replace H : (some t153) = some r := H
        have A21 := Aside0.mk A210
        clear A210
        obtain rfl := Option.some.inj H
        go_enter Try.func8, Try.ntmps8
        go_wp2_with (first | ((with_reducible refine gate_callee (f := 18) rfl ?_); refine goesL_ (some 12) rfl rfl Try.func18 (by kernel_rfl) rfl #[.int .i64 a0, .int .i64 a1] rfl (by (try simp only [List.map_toArray, List.map_cons, List.map_nil]); first | done | rfl | (simp only [List.length_drop, List.length_take]; rfl)) ?_; (with_reducible refine (ballot_Next.calls a0 a1 t145 t146 _ A3.out).mono ?_); rintro e w22 ⟨rfl, hb⟩; refine ⟨_, rfl, ?_⟩; have n0_ := Aside0.mk (below_step (by repeat (first | (with_reducible first | exact HB.out | apply below_alloc | apply pw_below_drewN | apply below_drew1) | exact HB.out)) hb); clear HB; have HB := n0_; clear n0_; (try clear hb); (try clear hb2); (try clear hk); (try clear hi)) | (go_at_call 14; (with_reducible refine (racewaylaw09_works.calls  t153 _ A21.out).mono ?_); rintro e w23 ⟨rfl, hb⟩; have n0_ := Aside0.mk (below_step (by repeat (first | (with_reducible first | exact HB.out | apply below_alloc | apply pw_below_drewN | apply below_drew1) | exact HB.out)) hb); clear HB; have HB := n0_; clear n0_; (try clear hb); (try clear hb2); (try clear hk); (try clear hi)))
        go_ret
        exact ⟨by first | rfl | (simp [errW_none, errW_some] <;> rfl) | (simp [*, errW_none, errW_some] <;> rfl), by repeat (first | (with_reducible first | exact HB.out | apply below_alloc | apply pw_below_drewN | apply below_drew1) | exact HB.out)⟩
      · rw [if_neg c20] at H
        have c20b0 : (t146 == 2) = false := beq_eq_false_iff_ne.mpr c20
        have c20b1 : (t146 != 2) = true := bne_iff_ne.mpr c20
        exact absurd (Option.some.inj H) (by rw [hrt.out]; decide)
    · rw [if_neg c19] at H
      have c19b0 : (t145 == 0) = false := beq_eq_false_iff_ne.mpr c19
      have c19b1 : (t145 != 0) = true := bne_iff_ne.mpr c19
      exact absurd (Option.some.inj H) (by rw [hrt.out]; decide)
-- LAW racewaylaw09_BallotNexts

end Go.Proofs.Ytjofllllnmfneaa.P
