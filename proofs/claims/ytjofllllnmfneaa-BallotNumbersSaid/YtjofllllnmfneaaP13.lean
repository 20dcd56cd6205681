-- Written by the session's own program (wip/tools/myprint.py), over the kit's printer. Lean checks it.
import Derived.Test.YtjofllllnmfneaaP0
import Derived.Test.YtjofllllnmfneaaP1
import Derived.Test.YtjofllllnmfneaaP2
import Derived.Test.YtjofllllnmfneaaP3
import Derived.Test.YtjofllllnmfneaaP4
import Derived.Test.YtjofllllnmfneaaP5
import Derived.Test.YtjofllllnmfneaaP6
import Derived.Test.YtjofllllnmfneaaP8
import Derived.Test.YtjofllllnmfneaaP10
import Derived.Test.YtjofllllnmfneaaP11
import Derived.Test.YtjofllllnmfneaaP12
namespace Go.Proofs.Ytjofllllnmfneaa.P
open Go.RowKit Go.Proofs.YtjofllllnmfneaaW.PrintWords Go.Proofs.YtjofllllnmfneaaW.PrintLast Go.Proofs.YtjofllllnmfneaaW.PrintMore
attribute [local go_sem] max2_int min2_int max_two min_two max_three min_three max_four min_four   -- for this text's walks alone
set_option linter.unusedVariables false
set_option linter.unusedSimpArgs false

/-! ### racewaylaw09_BallotNumbers: function 6 -/
def racewaylaw09_BallotNumbers.f (a0 : Int) (a1 : Int) : Option (Bool) := (ballot_Make.f a0 a1).bind fun bt130 => ((racewayref09_Make.f a0 a1).bind fun bt132 => ((ballot_Next.f a0 a1).bind fun bt134 => ((racewayref09_Next.f a0 a1).bind fun bt136 => (if bt130.1 = bt132.1 then (if bt130.2 = bt132.2 then (if bt134.1 = bt136.1 then (if bt134.2 = bt136.2 then ((ballot_Round.f a0).bind fun t138 => ((racewayref09_Round.f a0).bind fun t139 => (if t138 = t139 then ((ballot_Node.f a0).bind fun t140 => ((racewayref09_Node.f a0).bind fun t141 => (if t140 = t141 then ((ballot_Quorum.f a0).bind fun t142 => ((racewayref09_Quorum.f a0).bind fun t143 => (if t142 = t143 then ((racewaylaw09_works.f).bind fun t144 => (some t144)) else (some false)))) else (some false)))) else (some false)))) else (some false)) else (some false)) else (some false)) else (some false)))))
set_option maxHeartbeats 8000000 in
set_option maxRecDepth 100000 in
theorem racewaylaw09_BallotNumbers.calls (a0 : Int) (a1 : Int) (r : Bool) (w : World) (h : racewaylaw09_BallotNumbers.f a0 a1 = some r) (hrt : Aside0 (r = true)) :
    Calls Try.prog 6 #[.int .i64 a0, .int .i64 a1] w fun e w' => e = .returned (.bool r) ∧ Below w.heap.size w w' := by
  have HB := Aside0.mk (Below.refl w.heap.size w)
  have H : ((ballot_Make.f a0 a1).bind fun bt130 => ((racewayref09_Make.f a0 a1).bind fun bt132 => ((ballot_Next.f a0 a1).bind fun bt134 => ((racewayref09_Next.f a0 a1).bind fun bt136 => (if bt130.1 = bt132.1 then (if bt130.2 = bt132.2 then (if bt134.1 = bt136.1 then (if bt134.2 = bt136.2 then ((ballot_Round.f a0).bind fun t138 => ((racewayref09_Round.f a0).bind fun t139 => (if t138 = t139 then ((ballot_Node.f a0).bind fun t140 => ((racewayref09_Node.f a0).bind fun t141 => (if t140 = t141 then ((ballot_Quorum.f a0).bind fun t142 => ((racewayref09_Quorum.f a0).bind fun t143 => (if t142 = t143 then ((racewaylaw09_works.f).bind fun t144 => (some t144)) else (some false)))) else (some false)))) else (some false)))) else (some false)) else (some false)) else (some false)) else (some false)))))) = some r := h
  clear h
  replace H := Option.bind_eq_some_iff.mp H
  obtain ⟨⟨t130, t131⟩, A30, H⟩ := H
  replace H : ((racewayref09_Make.f a0 a1).bind fun bt132 => ((ballot_Next.f a0 a1).bind fun bt134 => ((racewayref09_Next.f a0 a1).bind fun bt136 => (if t130 = bt132.1 then (if t131 = bt132.2 then (if bt134.1 = bt136.1 then (if bt134.2 = bt136.2 then ((ballot_Round.f a0).bind fun t138 => ((racewayref09_Round.f a0).bind fun t139 => (if t138 = t139 then ((ballot_Node.f a0).bind fun t140 => ((racewayref09_Node.f a0).bind fun t141 => (if t140 = t141 then ((ballot_Quorum.f a0).bind fun t142 => ((racewayref09_Quorum.f a0).bind fun t143 => (if t142 = t143 then ((racewaylaw09_works.f).bind fun t144 => (some t144)) else (some false)))) else (some false)))) else (some false)))) else (some false)) else (some false)) else (some false)) else (some false))))) = some r := H
  have A3 := Aside0.mk A30
  clear A30
  replace H := Option.bind_eq_some_iff.mp H
  obtain ⟨⟨t132, t133⟩, A40, H⟩ := H
  replace H : ((ballot_Next.f a0 a1).bind fun bt134 => ((racewayref09_Next.f a0 a1).bind fun bt136 => (if t130 = t132 then (if t131 = t133 then (if bt134.1 = bt136.1 then (if bt134.2 = bt136.2 then ((ballot_Round.f a0).bind fun t138 => ((racewayref09_Round.f a0).bind fun t139 => (if t138 = t139 then ((ballot_Node.f a0).bind fun t140 => ((racewayref09_Node.f a0).bind fun t141 => (if t140 = t141 then ((ballot_Quorum.f a0).bind fun t142 => ((racewayref09_Quorum.f a0).bind fun t143 => (if t142 = t143 then ((racewaylaw09_works.f).bind fun t144 => (some t144)) else (some false)))) else (some false)))) else (some false)))) else (some false)) else (some false)) else (some false)) else (some false)))) = some r := H
  have A4 := Aside0.mk A40
  clear A40
  replace H := Option.bind_eq_some_iff.mp H
  obtain ⟨⟨t134, t135⟩, A50, H⟩ := H
  replace H : ((racewayref09_Next.f a0 a1).bind fun bt136 => (if t130 = t132 then (if t131 = t133 then (if t134 = bt136.1 then (if t135 = bt136.2 then ((ballot_Round.f a0).bind fun t138 => ((racewayref09_Round.f a0).bind fun t139 => (if t138 = t139 then ((ballot_Node.f a0).bind fun t140 => ((racewayref09_Node.f a0).bind fun t141 => (if t140 = t141 then ((ballot_Quorum.f a0).bind fun t142 => ((racewayref09_Quorum.f a0).bind fun t143 => (if t142 = t143 then ((racewaylaw09_works.f).bind fun t144 => (some t144)) else (some false)))) else (some false)))) else (some false)))) else (some false)) else (some false)) else (some false)) else (some false))) = some r := H
  have A5 := Aside0.mk A50
  clear A50
  replace H := Option.bind_eq_some_iff.mp H
  obtain ⟨⟨t136, t137⟩, A60, H⟩ := H
  replace H : (if t130 = t132 then (if t131 = t133 then (if t134 = t136 then (if t135 = t137 then ((ballot_Round.f a0).bind fun t138 => ((racewayref09_Round.f a0).bind fun t139 => (if t138 = t139 then ((ballot_Node.f a0).bind fun t140 => ((racewayref09_Node.f a0).bind fun t141 => (if t140 = t141 then ((ballot_Quorum.f a0).bind fun t142 => ((racewayref09_Quorum.f a0).bind fun t143 => (if t142 = t143 then ((racewaylaw09_works.f).bind fun t144 => (some t144)) else (some false)))) else (some false)))) else (some false)))) else (some false)) else (some false)) else (some false)) else (some false)) = some r := H
  have A6 := Aside0.mk A60
  clear A60
  by_cases c7 : t130 = t132
  · rw [if_pos c7] at H
    have c7b0 : (t130 == t132) = true := beq_iff_eq.mpr c7
    have c7b1 : (t130 != t132) = false := bne_eq_false_iff_eq.mpr c7
    clear c7
    by_cases c8 : t131 = t133
    · rw [if_pos c8] at H
      have c8b0 : (t131 == t133) = true := beq_iff_eq.mpr c8
      have c8b1 : (t131 != t133) = false := bne_eq_false_iff_eq.mpr c8
      clear c8
      by_cases c9 : t134 = t136
      · rw [if_pos c9] at H
        have c9b0 : (t134 == t136) = true := beq_iff_eq.mpr c9
        have c9b1 : (t134 != t136) = false := bne_eq_false_iff_eq.mpr c9
        clear c9
        by_cases c10 : t135 = t137
        · rw [if_pos c10] at H
          have c10b0 : (t135 == t137) = true := beq_iff_eq.mpr c10
          have c10b1 : (t135 != t137) = false := bne_eq_false_iff_eq.mpr c10
          clear c10
          replace H := Option.bind_eq_some_iff.mp H
          obtain ⟨t138, A110, H⟩ := H
          replace H : ((racewayref09_Round.f a0).bind fun t139 => (if t138 = t139 then ((ballot_Node.f a0).bind fun t140 => ((racewayref09_Node.f a0).bind fun t141 => (if t140 = t141 then ((ballot_Quorum.f a0).bind fun t142 => ((racewayref09_Quorum.f a0).bind fun t143 => (if t142 = t143 then ((racewaylaw09_works.f).bind fun t144 => (some t144)) else (some false)))) else (some false)))) else (some false))) = some r := H
          have A11 := Aside0.mk A110
          clear A110
          replace H := Option.bind_eq_some_iff.mp H
          obtain ⟨t139, A120, H⟩ := H
          replace H : (if t138 = t139 then ((ballot_Node.f a0).bind fun t140 => ((racewayref09_Node.f a0).bind fun t141 => (if t140 = t141 then ((ballot_Quorum.f a0).bind fun t142 => ((racewayref09_Quorum.f a0).bind fun t143 => (if t142 = t143 then ((racewaylaw09_works.f).bind fun t144 => (some t144)) else (some false)))) else (some false)))) else (some false)) = some r := H
          have A12 := Aside0.mk A120
          clear A120
          by_cases c13 : t138 = t139
          · rw [if_pos c13] at H
            have c13b0 : (t138 == t139) = true := beq_iff_eq.mpr c13
            have c13b1 : (t138 != t139) = false := bne_eq_false_iff_eq.mpr c13
            clear c13
            replace H := Option.bind_eq_some_iff.mp H
            obtain ⟨t140, A140, H⟩ := H
            replace H : ((racewayref09_Node.f a0).bind fun t141 => (if t140 = t141 then ((ballot_Quorum.f a0).bind fun t142 => ((racewayref09_Quorum.f a0).bind fun t143 => (if t142 = t143 then ((racewaylaw09_works.f).bind fun t144 => (some t144)) else (some false)))) else (some false))) = some r := H
            have A14 := Aside0.mk A140
            clear A140
            replace H := Option.bind_eq_some_iff.mp H
            obtain ⟨t141, A150, H⟩ := H
            replace H : (if t140 = t141 then ((ballot_Quorum.f a0).bind fun t142 => ((racewayref09_Quorum.f a0).bind fun t143 => (if t142 = t143 then ((racewaylaw09_works.f).bind fun t144 => (some t144)) else (some false)))) else (some false)) = some r := H
            have A15 := Aside0.mk A150
            clear A150
            by_cases c16 : t140 = t141
            · rw [if_pos c16] at H
              have c16b0 : (t140 == t141) = true := beq_iff_eq.mpr c16
              have c16b1 : (t140 != t141) = false := bne_eq_false_iff_eq.mpr c16
              clear c16
              replace H := Option.bind_eq_some_iff.mp H
              obtain ⟨t142, A170, H⟩ := H
              replace H : ((racewayref09_Quorum.f a0).bind fun t143 => (if t142 = t143 then ((racewaylaw09_works.f).bind fun t144 => (some t144)) else (some false))) = some r := H
              have A17 := Aside0.mk A170
              clear A170
              replace H := Option.bind_eq_some_iff.mp H
              obtain ⟨t143, A180, H⟩ := H
              replace H : (if t142 = t143 then ((racewaylaw09_works.f).bind fun t144 => (some t144)) else (some false)) = some r := H
              have A18 := Aside0.mk A180
              clear A180
              by_cases c19 : t142 = t143
              · rw [if_pos c19] at H
                have c19b0 : (t142 == t143) = true := beq_iff_eq.mpr c19
                have c19b1 : (t142 != t143) = false := bne_eq_false_iff_eq.mpr c19
                clear c19
                replace H := Option.bind_eq_some_iff.mp H
                obtain ⟨t144, A200, H⟩ := H
                replace H : (some t144) = some r := H
                have A20 := Aside0.mk A200
                clear A200
                obtain rfl := Option.some.inj H
                go_enter Try.func6, Try.ntmps6
                go_wp2_with (first | ((with_reducible refine gate_callee (f := 16) rfl ?_); refine goesL_ (some 16) rfl rfl Try.func16 (by kernel_rfl) rfl #[.int .i64 a0, .int .i64 a1] rfl (by (try simp only [List.map_toArray, List.map_cons, List.map_nil]); first | done | rfl | (simp only [List.length_drop, List.length_take]; rfl)) ?_; (with_reducible refine (ballot_Make.calls a0 a1 t130 t131 _ A3.out).mono ?_); rintro e w' ⟨rfl, ⟨nd, rfl⟩⟩; refine ⟨_, rfl, ?_⟩) | ((with_reducible refine gate_callee (f := 17) rfl ?_); refine goesL_ (some 22) rfl rfl Try.func17 (by kernel_rfl) rfl #[.int .i64 a0, .int .i64 a1] rfl (by (try simp only [List.map_toArray, List.map_cons, List.map_nil]); first | done | rfl | (simp only [List.length_drop, List.length_take]; rfl)) ?_; (with_reducible refine (racewayref09_Make.calls a0 a1 t132 t133 _ A4.out).mono ?_); rintro e w' ⟨rfl, ⟨nd, rfl⟩⟩; refine ⟨_, rfl, ?_⟩) | ((with_reducible refine gate_callee (f := 18) rfl ?_); refine goesL_ (some 28) rfl rfl Try.func18 (by kernel_rfl) rfl #[.int .i64 a0, .int .i64 a1] rfl (by (try simp only [List.map_toArray, List.map_cons, List.map_nil]); first | done | rfl | (simp only [List.length_drop, List.length_take]; rfl)) ?_; (with_reducible refine (ballot_Next.calls a0 a1 t134 t135 _ A5.out).mono ?_); rintro e w21 ⟨rfl, hb⟩; refine ⟨_, rfl, ?_⟩; have n0_ := Aside0.mk (below_step (by repeat (first | (with_reducible first | exact HB.out | apply below_alloc | apply pw_below_drewN | apply below_drew1) | exact HB.out)) hb); clear HB; have HB := n0_; clear n0_; (try clear hb); (try clear hb2); (try clear hk); (try clear hi)) | ((with_reducible refine gate_callee (f := 19) rfl ?_); refine goesL_ (some 34) rfl rfl Try.func19 (by kernel_rfl) rfl #[.int .i64 a0, .int .i64 a1] rfl (by (try simp only [List.map_toArray, List.map_cons, List.map_nil]); first | done | rfl | (simp only [List.length_drop, List.length_take]; rfl)) ?_; (with_reducible refine (racewayref09_Next.calls a0 a1 t136 t137 _ A6.out).mono ?_); rintro e w' ⟨rfl, ⟨nd, rfl⟩⟩; refine ⟨_, rfl, ?_⟩) | (go_at_call 20; (with_reducible refine (ballot_Round.calls a0 t138 _ A11.out).mono ?_); rintro e w' ⟨rfl, ⟨nd, rfl⟩⟩) | (go_at_call 21; (with_reducible refine (racewayref09_Round.calls a0 t139 _ A12.out).mono ?_); rintro e w' ⟨rfl, ⟨nd, rfl⟩⟩) | (go_at_call 22; (with_reducible refine (ballot_Node.calls a0 t140 _ A14.out).mono ?_); rintro e w' ⟨rfl, ⟨nd, rfl⟩⟩) | (go_at_call 23; (with_reducible refine (racewayref09_Node.calls a0 t141 _ A15.out).mono ?_); rintro e w' ⟨rfl, ⟨nd, rfl⟩⟩) | (go_at_call 15; (with_reducible refine (ballot_Quorum.calls a0 t142 _ A17.out).mono ?_); rintro e w' ⟨rfl, ⟨nd, rfl⟩⟩) | (go_at_call 24; (with_reducible refine (racewayref09_Quorum.calls a0 t143 _ A18.out).mono ?_); rintro e w' ⟨rfl, ⟨nd, rfl⟩⟩) | (go_at_call 14; (with_reducible refine (racewaylaw09_works.calls  t144 _ A20.out).mono ?_); rintro e w22 ⟨rfl, hb⟩; have n0_ := Aside0.mk (below_step (by repeat (first | (with_reducible first | exact HB.out | apply below_alloc | apply pw_below_drewN | apply below_drew1) | exact HB.out)) hb); clear HB; have HB := n0_; clear n0_; (try clear hb); (try clear hb2); (try clear hk); (try clear hi)))
                go_ret
                exact ⟨by first | rfl | (simp [errW_none, errW_some] <;> rfl) | (simp [*, errW_none, errW_some] <;> rfl), by repeat (first | (with_reducible first | exact HB.out | apply below_alloc | apply pw_below_drewN | apply below_drew1) | exact HB.out)⟩
              · rw [if_neg c19] at H
                have c19b0 : (t142 == t143) = false := beq_eq_false_iff_ne.mpr c19
                have c19b1 : (t142 != t143) = true := bne_iff_ne.mpr c19
                exact absurd (Option.some.inj H) (by rw [hrt.out]; decide)
            · rw [if_neg c16] at H
              have c16b0 : (t140 == t141) = false := beq_eq_false_iff_ne.mpr c16
              have c16b1 : (t140 != t141) = true := bne_iff_ne.mpr c16
              exact absurd (Option.some.inj H) (by rw [hrt.out]; decide)
          · rw [if_neg c13] at H
            have c13b0 : (t138 == t139) = false := beq_eq_false_iff_ne.mpr c13
            have c13b1 : (t138 != t139) = true := bne_iff_ne.mpr c13
            exact absurd (Option.some.inj H) (by rw [hrt.out]; decide)
        · rw [if_neg c10] at H
          have c10b0 : (t135 == t137) = false := beq_eq_false_iff_ne.mpr c10
          have c10b1 : (t135 != t137) = true := bne_iff_ne.mpr c10
          exact absurd (Option.some.inj H) (by rw [hrt.out]; decide)
      · rw [if_neg c9] at H
        have c9b0 : (t134 == t136) = false := beq_eq_false_iff_ne.mpr c9
        have c9b1 : (t134 != t136) = true := bne_iff_ne.mpr c9
        exact absurd (Option.some.inj H) (by rw [hrt.out]; decide)
    · rw [if_neg c8] at H
      have c8b0 : (t131 == t133) = false := beq_eq_false_iff_ne.mpr c8
      have c8b1 : (t131 != t133) = true := bne_iff_ne.mpr c8
      exact absurd (Option.some.inj H) (by rw [hrt.out]; decide)
  · rw [if_neg c7] at H
    have c7b0 : (t130 == t132) = false := beq_eq_false_iff_ne.mpr c7
    have c7b1 : (t130 != t132) = true := bne_iff_ne.mpr c7
    exact absurd (Option.some.inj H) (by rw [hrt.out]; decide)
-- LAW racewaylaw09_BallotNumbers

end Go.Proofs.Ytjofllllnmfneaa.P
