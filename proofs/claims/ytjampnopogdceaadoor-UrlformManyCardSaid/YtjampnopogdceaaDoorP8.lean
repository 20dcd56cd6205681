-- Written by the session's own program (wip/tools/myprint.py), over the kit's printer. Lean checks it.
import Derived.Test.YtjampnopogdceaaDoorP0
import Derived.Test.YtjampnopogdceaaDoorP4
import Derived.Test.YtjampnopogdceaaDoorGParse
namespace Go.Proofs.YtjampnopogdceaaDoor.P
open Go.RowKit Go.Proofs.YtjampnopogdceaaDoorW.PrintWords Go.Proofs.YtjampnopogdceaaDoorW.PrintLast Go.Proofs.YtjampnopogdceaaDoorW.PrintMore
attribute [local go_sem] max2_int min2_int max_two min_two max_three min_three max_four min_four   -- for this text's walks alone
set_option linter.unusedVariables false
set_option linter.unusedSimpArgs false

/-! ### racewaylaw26_UrlformMany: function 5 -/
def racewaylaw26_UrlformMany.l0 : Nat → Int → ByteArray → Int → Int → Option (Bool)
  | 0, _, _, _, _ => none
  | k + 1, x0, x3, x13, x14 => if x14 < x13 then (if x14 > 0 then (if x3.size + 1 ≤ 9223372036854775807 then (if (x3 ++ (⟨#[38]⟩ : ByteArray)).size + 2 ≤ 9223372036854775807 then (racewaylaw26_UrlformMany.l0 k x0 ((x3 ++ (⟨#[38]⟩ : ByteArray)) ++ (⟨#[97, 61]⟩ : ByteArray)) x13 (wrap64 (x14 + 1))) else (none)) else (none)) else (if x3.size + 2 ≤ 9223372036854775807 then (racewaylaw26_UrlformMany.l0 k x0 (x3 ++ (⟨#[97, 61]⟩ : ByteArray)) x13 (wrap64 (x14 + 1))) else (none))) else ((urlform_Parse.f x3).bind fun bt159 => (if x0 > 1024 then (if bt159.2.2 = 7 then (if bt159.2.1 = 3072 then (if (bt159.1.length : Int) = 0 then ((racewaylaw26_works.f k).bind fun t164 => (some t164)) else (some false)) else (some false)) else (some false)) else (if bt159.2.2 = 0 then (if (bt159.1.length : Int) = x0 then ((racewaylaw26_works.f k).bind fun t165 => (some t165)) else (some false)) else (some false))))
def racewaylaw26_UrlformMany.f (k : Nat) (a0 : Int) : Option (Bool) := racewaylaw26_UrlformMany.l0 k (wrap64 (1020 + (Int.tmod (wrap64 ((Int.tmod a0 9) + 9)) 9))) (⟨#[]⟩ : ByteArray) (wrap64 (1020 + (Int.tmod (wrap64 ((Int.tmod a0 9) + 9)) 9))) 0
theorem racewaylaw26_UrlformMany.mono_l : ∀ k, (∀ y0 y1 y2 y3, LeO (racewaylaw26_UrlformMany.l0 k y0 y1 y2 y3) (racewaylaw26_UrlformMany.l0 (k + 1) y0 y1 y2 y3))
  | 0 => fun _ _ _ _ r h => by simp [racewaylaw26_UrlformMany.l0] at h
  | k + 1 => by
    have ih0 := racewaylaw26_UrlformMany.mono_l k
    · intro y0 y1 y2 y3
      unfold racewaylaw26_UrlformMany.l0
      repeat' first
      | (with_reducible exact ih0 _ _ _ _)
      | (with_reducible exact racewaylaw26_works.mono _)
      | (with_reducible exact LeO.refl _)
      | (with_reducible exact LeO.none _)
      | (with_reducible refine LeO.ite ?_ ?_)
      | (with_reducible refine LeO.bind ?_ (fun _ => ?_))
      | exact ih0 _ _ _ _
      | exact racewaylaw26_works.mono _
      | exact LeO.none _
      | refine LeO.ite ?_ ?_
      | refine LeO.bind ?_ (fun _ => ?_)
theorem racewaylaw26_UrlformMany.mono : ∀ a0 k, LeO (racewaylaw26_UrlformMany.f k a0) (racewaylaw26_UrlformMany.f (k + 1) a0) := by
  intro a0 k
  have ih0 := racewaylaw26_UrlformMany.mono_l k
  unfold racewaylaw26_UrlformMany.f
  repeat' first
      | (with_reducible exact ih0 _ _ _ _)
      | (with_reducible exact racewaylaw26_works.mono _)
      | (with_reducible exact LeO.refl _)
      | (with_reducible exact LeO.none _)
      | (with_reducible refine LeO.ite ?_ ?_)
      | (with_reducible refine LeO.bind ?_ (fun _ => ?_))
      | exact ih0 _ _ _ _
      | exact racewaylaw26_works.mono _
      | exact LeO.none _
      | refine LeO.ite ?_ ?_
      | refine LeO.bind ?_ (fun _ => ?_)
set_option maxHeartbeats 8000000 in
set_option maxRecDepth 100000 in
theorem racewaylaw26_UrlformMany.calls (k : Nat) (a0 : Int) (r : Bool) (w : World) (h : racewaylaw26_UrlformMany.f k a0 = some r) (hrt : Aside0 (r = true)) :
    Calls Tryd.prog 5 #[.int .i64 a0] w fun e w' => e = .returned (.bool r) ∧ Below w.heap.size w w' := by
  have HB := Aside0.mk (Below.refl w.heap.size w)
  have H : (racewaylaw26_UrlformMany.l0 k (wrap64 (1020 + (Int.tmod (wrap64 ((Int.tmod a0 9) + 9)) 9))) (⟨#[]⟩ : ByteArray) (wrap64 (1020 + (Int.tmod (wrap64 ((Int.tmod a0 9) + 9)) 9))) 0) = some r := h
  clear h
  have H' := Aside0.mk H
  clear H
  go_enter Tryd.func5, Tryd.ntmps5
  go_wp2
  go_loopg [3, 14] k (fun kq v3 v14 w' => ∃ (x3_1 : ByteArray) (x14_1 : Int), v3 = .string x3_1 ∧ v14 = .int .i64 x14_1 ∧ Aside0 (racewaylaw26_UrlformMany.l0 kq (wrap64 (1020 + (Int.tmod (wrap64 ((Int.tmod a0 9) + 9)) 9))) x3_1 (wrap64 (1020 + (Int.tmod (wrap64 ((Int.tmod a0 9) + 9)) 9))) x14_1 = some r) ∧ Aside0 (kq ≤ k) ∧ Aside0 (Below w.heap.size w w'))
  case atStart => exact ⟨((⟨#[]⟩ : ByteArray)), (0), (by first | rfl | (simp; done) | (simp [*]; done)), (by first | rfl | (simp; done) | (simp [*]; done)), H', ⟨Nat.le_refl _⟩, ⟨by repeat (first | (with_reducible first | exact HB.out | apply below_alloc | apply pw_below_drewN | apply below_drew1) | exact HB.out)⟩⟩
  case round =>
    clear H'
    obtain ⟨x3_1, x14_1, rfl, rfl, HA, HK1, HB⟩ := hrel
    cases gk with
    | zero => exact absurd HA.out (by simp [racewaylaw26_UrlformMany.l0])
    | succ k1 =>
      have H := HA.out
      clear HA
      simp only [racewaylaw26_UrlformMany.l0] at H
      by_cases c2 : x14_1 < (wrap64 (1020 + (Int.tmod (wrap64 ((Int.tmod a0 9) + 9)) 9)))
      · rw [if_pos c2] at H
        have c2b0 : decide (x14_1 < (wrap64 (1020 + (Int.tmod (wrap64 ((Int.tmod a0 9) + 9)) 9)))) = true := decide_eq_true c2
        clear c2
        by_cases c3 : x14_1 > 0
        · rw [if_pos c3] at H
          have c3b0 : decide (0 < x14_1) = true := decide_eq_true c3
          clear c3
          by_cases c4 : x3_1.size + 1 ≤ 9223372036854775807
          · rw [if_pos c4] at H
            have c4b0 := eq_true c4
            have c4b1 : decide (x3_1.size + 1 ≤ 9223372036854775807) = true := decide_eq_true c4
            try have c4b2 : (9223372036854775807 < x3_1.size + 1) = False := eq_false (Nat.not_lt.2 c4)
            by_cases c5 : (x3_1 ++ (⟨#[38]⟩ : ByteArray)).size + 2 ≤ 9223372036854775807
            · rw [if_pos c5] at H
              have c5b0 := eq_true c5
              have c5b1 : decide ((x3_1 ++ (⟨#[38]⟩ : ByteArray)).size + 2 ≤ 9223372036854775807) = true := decide_eq_true c5
              try have c5b2 : (9223372036854775807 < (x3_1 ++ (⟨#[38]⟩ : ByteArray)).size + 2) = False := eq_false (Nat.not_lt.2 c5)
              have c5s : (x3_1 ++ (⟨#[38]⟩ : ByteArray)).size = x3_1.size + 1 := by rw [ByteArray.size_append]; rfl
              have c5u := c5
              rw [c5s] at c5u
              have c5v : (9223372036854775807 < x3_1.size + 1 + 2) = False := eq_false (Nat.not_lt.2 c5u)
              have c5w : x3_1.size + 1 + 2 ≤ 9223372036854775807 := c5u
              have c5x : x3_1.size + 3 ≤ 9223372036854775807 := c5u
              have H' := Aside0.mk H
              clear H
              go_wp2
              go_roundg k1
              case measure => have := HK1.out; omega
              case rel => exact ⟨((x3_1 ++ (⟨#[38]⟩ : ByteArray)) ++ (⟨#[97, 61]⟩ : ByteArray)), (wrap64 (x14_1 + 1)), (by first | rfl | (simp; done) | (simp [*]; done)), (by first | rfl | (simp; done) | (simp [*]; done)), H', ⟨by have := HK1.out; omega⟩, ⟨by repeat (first | (with_reducible first | exact HB.out | apply below_alloc | apply pw_below_drewN | apply below_drew1) | exact HB.out)⟩⟩
            · rw [if_neg c5] at H
              exact absurd H (by simp)
          · rw [if_neg c4] at H
            exact absurd H (by simp)
        · rw [if_neg c3] at H
          have c3b0 : decide (0 < x14_1) = false := decide_eq_false c3
          clear c3
          by_cases c6 : x3_1.size + 2 ≤ 9223372036854775807
          · rw [if_pos c6] at H
            have c6b0 := eq_true c6
            have c6b1 : decide (x3_1.size + 2 ≤ 9223372036854775807) = true := decide_eq_true c6
            try have c6b2 : (9223372036854775807 < x3_1.size + 2) = False := eq_false (Nat.not_lt.2 c6)
            have H' := Aside0.mk H
            clear H
            go_wp2
            go_roundg k1
            case measure => have := HK1.out; omega
            case rel => exact ⟨(x3_1 ++ (⟨#[97, 61]⟩ : ByteArray)), (wrap64 (x14_1 + 1)), (by first | rfl | (simp; done) | (simp [*]; done)), (by first | rfl | (simp; done) | (simp [*]; done)), H', ⟨by have := HK1.out; omega⟩, ⟨by repeat (first | (with_reducible first | exact HB.out | apply below_alloc | apply pw_below_drewN | apply below_drew1) | exact HB.out)⟩⟩
          · rw [if_neg c6] at H
            exact absurd H (by simp)
      · rw [if_neg c2] at H
        have c2b0 : decide (x14_1 < (wrap64 (1020 + (Int.tmod (wrap64 ((Int.tmod a0 9) + 9)) 9)))) = false := decide_eq_false c2
        clear c2
        replace H := Option.bind_eq_some_iff.mp H
        obtain ⟨⟨t159, t160, t161⟩, A70, H⟩ := H
        replace H : (if (wrap64 (1020 + (Int.tmod (wrap64 ((Int.tmod a0 9) + 9)) 9))) > 1024 then (if t161 = 7 then (if t160 = 3072 then (if (t159.length : Int) = 0 then ((racewaylaw26_works.f k1).bind fun t164 => (some t164)) else (some false)) else (some false)) else (some false)) else (if t161 = 0 then (if (t159.length : Int) = (wrap64 (1020 + (Int.tmod (wrap64 ((Int.tmod a0 9) + 9)) 9))) then ((racewaylaw26_works.f k1).bind fun t165 => (some t165)) else (some false)) else (some false))) = some r := H
        have A7 := Aside0.mk A70
        clear A70
        by_cases c8 : (wrap64 (1020 + (Int.tmod (wrap64 ((Int.tmod a0 9) + 9)) 9))) > 1024
        · rw [if_pos c8] at H
          have c8b0 : decide (1024 < (wrap64 (1020 + (Int.tmod (wrap64 ((Int.tmod a0 9) + 9)) 9)))) = true := decide_eq_true c8
          clear c8
          by_cases c9 : t161 = 7
          · rw [if_pos c9] at H
            have c9b0 : (t161 == 7) = true := beq_iff_eq.mpr c9
            have c9b1 : (t161 != 7) = false := bne_eq_false_iff_eq.mpr c9
            clear c9
            by_cases c10 : t160 = 3072
            · rw [if_pos c10] at H
              have c10b0 : (t160 == 3072) = true := beq_iff_eq.mpr c10
              have c10b1 : (t160 != 3072) = false := bne_eq_false_iff_eq.mpr c10
              clear c10
              by_cases c11 : (t159.length : Int) = 0
              · rw [if_pos c11] at H
                have c11b0 : ((t159.length : Int) == 0) = true := beq_iff_eq.mpr c11
                have c11b1 : ((t159.length : Int) != 0) = false := bne_eq_false_iff_eq.mpr c11
                clear c11
                replace H := Option.bind_eq_some_iff.mp H
                obtain ⟨t164, A120, H⟩ := H
                replace H : (some t164) = some r := H
                have A12 := Aside0.mk A120
                clear A120
                obtain rfl := Option.some.inj H
                go_wp2_with (first | ((with_reducible refine gate_callee (f := 14) rfl ?_); refine goesL_ (some 26) rfl rfl Tryd.func14 (by kernel_rfl) rfl #[.string x3_1] rfl (by (try simp only [List.map_toArray, List.map_cons, List.map_nil]); first | done | rfl | (simp only [List.length_drop, List.length_take]; rfl)) ?_; (with_reducible refine (urlform_Parse.calls x3_1 t159 t160 t161 _ A7.out).mono ?_); rintro e w13 ⟨v162, rfl, ho0, hb⟩; refine ⟨_, rfl, ?_⟩; have n0_ := Aside0.mk (Kd.R_lower ho0 (below_size (by repeat (first | (with_reducible first | exact HB.out | apply below_alloc | apply pw_below_drewN | apply below_drew1) | exact HB.out)))); have n1_ := Aside0.mk (below_step (by repeat (first | (with_reducible first | exact HB.out | apply below_alloc | apply pw_below_drewN | apply below_drew1) | exact HB.out)) hb); clear HB; have HO163 := n0_; have HB := n1_; clear n0_ n1_; (try clear hb); (try clear hb2); (try clear hk); (try clear hi); (try clear ho0); obtain ⟨Ao14, co14, eo14⟩ := Kd.R_slice HO163.out; subst eo14) | (go_at_call 13; (with_reducible refine (racewaylaw26_works.calls k1  t164 _ A12.out).mono ?_); rintro e w15 ⟨rfl, hb⟩; have n0_ := Aside0.mk (Kd.R_below (by (with_reducible repeat (first | apply Kd.R_alloc | apply Kd.R_drewN | apply Kd.R_drew)); exact HO163.out) hb); have n1_ := Aside0.mk (below_step (by repeat (first | (with_reducible first | exact HB.out | apply below_alloc | apply pw_below_drewN | apply below_drew1) | exact HB.out)) hb); clear HO163; clear HB; have HO163 := n0_; have HB := n1_; clear n0_ n1_; (try clear hb); (try clear hb2); (try clear hk); (try clear hi)))
                go_ret
                exact ⟨by first | rfl | (simp [errW_none, errW_some] <;> rfl) | (simp [*, errW_none, errW_some] <;> rfl), by repeat (first | (with_reducible first | exact HB.out | apply below_alloc | apply pw_below_drewN | apply below_drew1) | exact HB.out)⟩
              · rw [if_neg c11] at H
                have c11b0 : ((t159.length : Int) == 0) = false := beq_eq_false_iff_ne.mpr c11
                have c11b1 : ((t159.length : Int) != 0) = true := bne_iff_ne.mpr c11
                have c11b2 : ¬ (t159 = []) := fun h_ => c11 (by rw [h_]; rfl)
                exact absurd (Option.some.inj H) (by rw [hrt.out]; decide)
            · rw [if_neg c10] at H
              have c10b0 : (t160 == 3072) = false := beq_eq_false_iff_ne.mpr c10
              have c10b1 : (t160 != 3072) = true := bne_iff_ne.mpr c10
              exact absurd (Option.some.inj H) (by rw [hrt.out]; decide)
          · rw [if_neg c9] at H
            have c9b0 : (t161 == 7) = false := beq_eq_false_iff_ne.mpr c9
            have c9b1 : (t161 != 7) = true := bne_iff_ne.mpr c9
            exact absurd (Option.some.inj H) (by rw [hrt.out]; decide)
        · rw [if_neg c8] at H
          have c8b0 : decide (1024 < (wrap64 (1020 + (Int.tmod (wrap64 ((Int.tmod a0 9) + 9)) 9)))) = false := decide_eq_false c8
          clear c8
          by_cases c16 : t161 = 0
          · rw [if_pos c16] at H
            have c16b0 : (t161 == 0) = true := beq_iff_eq.mpr c16
            have c16b1 : (t161 != 0) = false := bne_eq_false_iff_eq.mpr c16
            clear c16
            by_cases c17 : (t159.length : Int) = (wrap64 (1020 + (Int.tmod (wrap64 ((Int.tmod a0 9) + 9)) 9)))
            · rw [if_pos c17] at H
              have c17b0 : ((t159.length : Int) == (wrap64 (1020 + (Int.tmod (wrap64 ((Int.tmod a0 9) + 9)) 9)))) = true := beq_iff_eq.mpr c17
              have c17b1 : ((t159.length : Int) != (wrap64 (1020 + (Int.tmod (wrap64 ((Int.tmod a0 9) + 9)) 9)))) = false := bne_eq_false_iff_eq.mpr c17
              clear c17
              replace H := Option.bind_eq_some_iff.mp H
              obtain ⟨t165, A180, H⟩ := H
              replace H : (some t165) = some r := H
              have A18 := Aside0.mk A180
              clear A180
              obtain rfl := Option.some.inj H
              go_wp2_with (first | ((with_reducible refine gate_callee (f := 14) rfl ?_); refine goesL_ (some 26) rfl rfl Tryd.func14 (by kernel_rfl) rfl #[.string x3_1] rfl (by (try simp only [List.map_toArray, List.map_cons, List.map_nil]); first | done | rfl | (simp only [List.length_drop, List.length_take]; rfl)) ?_; (with_reducible refine (urlform_Parse.calls x3_1 t159 t160 t161 _ A7.out).mono ?_); rintro e w19 ⟨v162, rfl, ho0, hb⟩; refine ⟨_, rfl, ?_⟩; have n0_ := Aside0.mk (Kd.R_lower ho0 (below_size (by repeat (first | (with_reducible first | exact HB.out | apply below_alloc | apply pw_below_drewN | apply below_drew1) | exact HB.out)))); have n1_ := Aside0.mk (below_step (by repeat (first | (with_reducible first | exact HB.out | apply below_alloc | apply pw_below_drewN | apply below_drew1) | exact HB.out)) hb); clear HB; have HO163 := n0_; have HB := n1_; clear n0_ n1_; (try clear hb); (try clear hb2); (try clear hk); (try clear hi); (try clear ho0); obtain ⟨Ao20, co20, eo20⟩ := Kd.R_slice HO163.out; subst eo20) | (go_at_call 13; (with_reducible refine (racewaylaw26_works.calls k1  t165 _ A18.out).mono ?_); rintro e w21 ⟨rfl, hb⟩; have n0_ := Aside0.mk (Kd.R_below (by (with_reducible repeat (first | apply Kd.R_alloc | apply Kd.R_drewN | apply Kd.R_drew)); exact HO163.out) hb); have n1_ := Aside0.mk (below_step (by repeat (first | (with_reducible first | exact HB.out | apply below_alloc | apply pw_below_drewN | apply below_drew1) | exact HB.out)) hb); clear HO163; clear HB; have HO163 := n0_; have HB := n1_; clear n0_ n1_; (try clear hb); (try clear hb2); (try clear hk); (try clear hi)))
              go_ret
              exact ⟨by first | rfl | (simp [errW_none, errW_some] <;> rfl) | (simp [*, errW_none, errW_some] <;> rfl), by repeat (first | (with_reducible first | exact HB.out | apply below_alloc | apply pw_below_drewN | apply below_drew1) | exact HB.out)⟩
            · rw [if_neg c17] at H
              have c17b0 : ((t159.length : Int) == (wrap64 (1020 + (Int.tmod (wrap64 ((Int.tmod a0 9) + 9)) 9)))) = false := beq_eq_false_iff_ne.mpr c17
              have c17b1 : ((t159.length : Int) != (wrap64 (1020 + (Int.tmod (wrap64 ((Int.tmod a0 9) + 9)) 9)))) = true := bne_iff_ne.mpr c17
              exact absurd (Option.some.inj H) (by rw [hrt.out]; decide)
          · rw [if_neg c16] at H
            have c16b0 : (t161 == 0) = false := beq_eq_false_iff_ne.mpr c16
            have c16b1 : (t161 != 0) = true := bne_iff_ne.mpr c16
            exact absurd (Option.some.inj H) (by rw [hrt.out]; decide)
-- LAW racewaylaw26_UrlformMany

end Go.Proofs.YtjampnopogdceaaDoor.P
