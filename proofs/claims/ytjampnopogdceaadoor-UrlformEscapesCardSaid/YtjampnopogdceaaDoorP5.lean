-- Written by the session's own program (wip/tools/myprint.py), over the kit's printer. Lean checks it.
import Derived.Test.YtjampnopogdceaaDoorP0
import Derived.Test.YtjampnopogdceaaDoorP3
import Derived.Test.YtjampnopogdceaaDoorP4
import Derived.Test.YtjampnopogdceaaDoorGEsc
import Derived.Test.YtjampnopogdceaaDoorGRef
namespace Go.Proofs.YtjampnopogdceaaDoor.P
open Go.RowKit Go.Proofs.YtjampnopogdceaaDoorW.PrintWords Go.Proofs.YtjampnopogdceaaDoorW.PrintLast Go.Proofs.YtjampnopogdceaaDoorW.PrintMore
attribute [local go_sem] max2_int min2_int max_two min_two max_three min_three max_four min_four   -- for this text's walks alone
set_option linter.unusedVariables false
set_option linter.unusedSimpArgs false

/-! ### racewaylaw26_UrlformEscapes: function 3 -/
def racewaylaw26_UrlformEscapes.f (k : Nat) (a0 : ByteArray) : Option (Bool) := if 0 ≤ (mn (a0.size : Int) 1000) then (if (mn (a0.size : Int) 1000) ≤ (a0.size : Int) then ((urlform_Unescape.f (a0.extract 0 ((mn (a0.size : Int) 1000) : Int).toNat)).bind fun bt127 => ((racewayref26_Unescape.f k (a0.extract 0 ((mn (a0.size : Int) 1000) : Int).toNat)).bind fun bt130 => ((urlform_Escape.f (a0.extract 0 ((mn (a0.size : Int) 1000) : Int).toNat)).bind fun t133 => ((racewayref26_Escape.f (a0.extract 0 ((mn (a0.size : Int) 1000) : Int).toNat)).bind fun t134 => (if t133.toList = t134.toList then (if bt127.1.toList = bt130.1.toList then (if bt127.2.1 = bt130.2.1 then (if bt127.2.2 = bt130.2.2 then ((racewaylaw26_works.f k).bind fun t135 => (some t135)) else (some false)) else (some false)) else (some false)) else (some false)))))) else (none)) else (none)
theorem racewaylaw26_UrlformEscapes.mono : ∀ a0 k, LeO (racewaylaw26_UrlformEscapes.f k a0) (racewaylaw26_UrlformEscapes.f (k + 1) a0) := by
  intro a0 k
  unfold racewaylaw26_UrlformEscapes.f
  repeat' first
      | (with_reducible exact racewaylaw26_works.mono _)
      | (with_reducible exact racewayref26_Unescape.mono _ _)
      | (with_reducible exact LeO.refl _)
      | (with_reducible exact LeO.none _)
      | (with_reducible refine LeO.ite ?_ ?_)
      | (with_reducible refine LeO.bind ?_ (fun _ => ?_))
      | exact racewaylaw26_works.mono _
      | exact racewayref26_Unescape.mono _ _
      | exact LeO.none _
      | refine LeO.ite ?_ ?_
      | refine LeO.bind ?_ (fun _ => ?_)
set_option maxHeartbeats 8000000 in
set_option maxRecDepth 100000 in
theorem racewaylaw26_UrlformEscapes.calls (k : Nat) (a0 : ByteArray) (r : Bool) (w : World) (h : racewaylaw26_UrlformEscapes.f k a0 = some r) (hrt : Aside0 (r = true)) :
    Calls Tryd.prog 3 #[.string a0] w fun e w' => e = .returned (.bool r) ∧ Below w.heap.size w w' := by
  have HB := Aside0.mk (Below.refl w.heap.size w)
  have H : (if 0 ≤ (mn (a0.size : Int) 1000) then (if (mn (a0.size : Int) 1000) ≤ (a0.size : Int) then ((urlform_Unescape.f (a0.extract 0 ((mn (a0.size : Int) 1000) : Int).toNat)).bind fun bt127 => ((racewayref26_Unescape.f k (a0.extract 0 ((mn (a0.size : Int) 1000) : Int).toNat)).bind fun bt130 => ((urlform_Escape.f (a0.extract 0 ((mn (a0.size : Int) 1000) : Int).toNat)).bind fun t133 => ((racewayref26_Escape.f (a0.extract 0 ((mn (a0.size : Int) 1000) : Int).toNat)).bind fun t134 => (if t133.toList = t134.toList then (if bt127.1.toList = bt130.1.toList then (if bt127.2.1 = bt130.2.1 then (if bt127.2.2 = bt130.2.2 then ((racewaylaw26_works.f k).bind fun t135 => (some t135)) else (some false)) else (some false)) else (some false)) else (some false)))))) else (none)) else (none)) = some r := h
  clear h
  obtain ⟨ji2, hji2⟩ : ∃ j_ : Int, (mn (a0.size : Int) 1000) = j_ := ⟨_, rfl⟩
  replace H : (if 0 ≤ (ji2) then (if (ji2) ≤ (a0.size : Int) then ((urlform_Unescape.f (a0.extract 0 ((ji2) : Int).toNat)).bind fun bt127 => ((racewayref26_Unescape.f k (a0.extract 0 ((ji2) : Int).toNat)).bind fun bt130 => ((urlform_Escape.f (a0.extract 0 ((ji2) : Int).toNat)).bind fun t133 => ((racewayref26_Escape.f (a0.extract 0 ((ji2) : Int).toNat)).bind fun t134 => (if t133.toList = t134.toList then (if bt127.1.toList = bt130.1.toList then (if bt127.2.1 = bt130.2.1 then (if bt127.2.2 = bt130.2.2 then ((racewaylaw26_works.f k).bind fun t135 => (some t135)) else (some false)) else (some false)) else (some false)) else (some false)))))) else (none)) else (none)) = some r := by first | (rw [hji2] at H; exact H) | (simp only [hji2] at H ⊢; exact H)
  (try (have hji2h : ji2 ≤ 1000 := by (rw [← hji2]; unfold mn; (repeat' split) <;> omega)))
  (try (have hji2g : ji2 ≤ 64 := by omega))
  (try (have hji2l : 0 ≤ ji2 := by (rw [← hji2]; unfold mn; (repeat' split) <;> omega)))
  (try (have hji2m : 0 ≤ ji2 := by omega))
  have hji2_ : (if 1000 < (a0.size : Int) then 1000 else (a0.size : Int)) = ji2 := hji2
  by_cases c3 : 0 ≤ (ji2)
  · rw [if_pos c3] at H
    have c3b0 := eq_true c3
    have c3b1 : decide (0 ≤ (ji2)) = true := decide_eq_true c3
    clear c3
    by_cases c4 : (ji2) ≤ (a0.size : Int)
    · rw [if_pos c4] at H
      have c4b0 := eq_true c4
      have c4b1 : decide ((ji2) ≤ (a0.size : Int)) = true := decide_eq_true c4
      clear c4
      replace H := Option.bind_eq_some_iff.mp H
      obtain ⟨⟨t127, t128, t129⟩, A50, H⟩ := H
      replace H : ((racewayref26_Unescape.f k (a0.extract 0 ((ji2) : Int).toNat)).bind fun bt130 => ((urlform_Escape.f (a0.extract 0 ((ji2) : Int).toNat)).bind fun t133 => ((racewayref26_Escape.f (a0.extract 0 ((ji2) : Int).toNat)).bind fun t134 => (if t133.toList = t134.toList then (if t127.toList = bt130.1.toList then (if t128 = bt130.2.1 then (if t129 = bt130.2.2 then ((racewaylaw26_works.f k).bind fun t135 => (some t135)) else (some false)) else (some false)) else (some false)) else (some false))))) = some r := H
      have A5 := Aside0.mk A50
      clear A50
      replace H := Option.bind_eq_some_iff.mp H
      obtain ⟨⟨t130, t131, t132⟩, A60, H⟩ := H
      replace H : ((urlform_Escape.f (a0.extract 0 ((ji2) : Int).toNat)).bind fun t133 => ((racewayref26_Escape.f (a0.extract 0 ((ji2) : Int).toNat)).bind fun t134 => (if t133.toList = t134.toList then (if t127.toList = t130.toList then (if t128 = t131 then (if t129 = t132 then ((racewaylaw26_works.f k).bind fun t135 => (some t135)) else (some false)) else (some false)) else (some false)) else (some false)))) = some r := H
      have A6 := Aside0.mk A60
      clear A60
      replace H := Option.bind_eq_some_iff.mp H
      obtain ⟨t133, A70, H⟩ := H
      replace H : ((racewayref26_Escape.f (a0.extract 0 ((ji2) : Int).toNat)).bind fun t134 => (if t133.toList = t134.toList then (if t127.toList = t130.toList then (if t128 = t131 then (if t129 = t132 then ((racewaylaw26_works.f k).bind fun t135 => (some t135)) else (some false)) else (some false)) else (some false)) else (some false))) = some r := H
      have A7 := Aside0.mk A70
      clear A70
      replace H := Option.bind_eq_some_iff.mp H
      obtain ⟨t134, A80, H⟩ := H
      replace H : (if t133.toList = t134.toList then (if t127.toList = t130.toList then (if t128 = t131 then (if t129 = t132 then ((racewaylaw26_works.f k).bind fun t135 => (some t135)) else (some false)) else (some false)) else (some false)) else (some false)) = some r := H
      have A8 := Aside0.mk A80
      clear A80
      by_cases c9 : t133.toList = t134.toList
      · rw [if_pos c9] at H
        have c9b0 : (t133.toList == t134.toList) = true := beq_iff_eq.mpr c9
        have c9b1 : (t133.toList != t134.toList) = false := bne_eq_false_iff_eq.mpr c9
        clear c9
        by_cases c10 : t127.toList = t130.toList
        · rw [if_pos c10] at H
          have c10b0 : (t127.toList == t130.toList) = true := beq_iff_eq.mpr c10
          have c10b1 : (t127.toList != t130.toList) = false := bne_eq_false_iff_eq.mpr c10
          clear c10
          by_cases c11 : t128 = t131
          · rw [if_pos c11] at H
            have c11b0 : (t128 == t131) = true := beq_iff_eq.mpr c11
            have c11b1 : (t128 != t131) = false := bne_eq_false_iff_eq.mpr c11
            clear c11
            by_cases c12 : t129 = t132
            · rw [if_pos c12] at H
              have c12b0 : (t129 == t132) = true := beq_iff_eq.mpr c12
              have c12b1 : (t129 != t132) = false := bne_eq_false_iff_eq.mpr c12
              clear c12
              replace H := Option.bind_eq_some_iff.mp H
              obtain ⟨t135, A130, H⟩ := H
              replace H : (some t135) = some r := H
              have A13 := Aside0.mk A130
              clear A130
              obtain rfl := Option.some.inj H
              go_enter Tryd.func3, Tryd.ntmps3
              go_wp2_with (first | ((with_reducible refine gate_callee (f := 9) rfl ?_); refine goesL_ (some 16) rfl rfl Tryd.func9 (by kernel_rfl) rfl #[.string (a0.extract 0 ((ji2) : Int).toNat)] rfl (by (try simp only [List.map_toArray, List.map_cons, List.map_nil]); first | done | (simp only [hji2]; rfl) | rfl | (simp only [List.length_drop, List.length_take]; rfl)) ?_; (with_reducible refine (urlform_Unescape.calls (a0.extract 0 ((ji2) : Int).toNat) t127 t128 t129 _ A5.out).mono ?_); rintro e w14 ⟨rfl, hb⟩; refine ⟨_, rfl, ?_⟩; have n0_ := Aside0.mk (below_step (by repeat (first | (with_reducible first | exact HB.out | apply below_alloc | apply pw_below_drewN | apply below_drew1) | exact HB.out)) hb); clear HB; have HB := n0_; clear n0_; (try clear hb); (try clear hb2); (try clear hk); (try clear hi)) | ((with_reducible refine gate_callee (f := 10) rfl ?_); refine goesL_ (some 22) rfl rfl Tryd.func10 (by kernel_rfl) rfl #[.string (a0.extract 0 ((ji2) : Int).toNat)] rfl (by (try simp only [List.map_toArray, List.map_cons, List.map_nil]); first | done | (simp only [hji2]; rfl) | rfl | (simp only [List.length_drop, List.length_take]; rfl)) ?_; (with_reducible refine (racewayref26_Unescape.calls k (a0.extract 0 ((ji2) : Int).toNat) t130 t131 t132 _ A6.out).mono ?_); rintro e w15 ⟨rfl, hb⟩; refine ⟨_, rfl, ?_⟩; have n0_ := Aside0.mk (below_step (by repeat (first | (with_reducible first | exact HB.out | apply below_alloc | apply pw_below_drewN | apply below_drew1) | exact HB.out)) hb); clear HB; have HB := n0_; clear n0_; (try clear hb); (try clear hb2); (try clear hk); (try clear hi)) | ((with_reducible refine gate_callee (f := 11) rfl ?_); refine goesL_ (some 27) rfl rfl Tryd.func11 (by kernel_rfl) rfl #[.string (a0.extract 0 ((ji2) : Int).toNat)] rfl (by (try simp only [List.map_toArray, List.map_cons, List.map_nil]); first | done | (simp only [hji2]; rfl) | rfl | (simp only [List.length_drop, List.length_take]; rfl)) ?_; (with_reducible refine (urlform_Escape.calls (a0.extract 0 ((ji2) : Int).toNat) t133 _ A7.out).mono ?_); rintro e w16 ⟨rfl, hb⟩; refine ⟨_, rfl, ?_⟩; have n0_ := Aside0.mk (below_step (by repeat (first | (with_reducible first | exact HB.out | apply below_alloc | apply pw_below_drewN | apply below_drew1) | exact HB.out)) hb); clear HB; have HB := n0_; clear n0_; (try clear hb); (try clear hb2); (try clear hk); (try clear hi)) | ((with_reducible refine gate_callee (f := 12) rfl ?_); refine goesL_ (some 29) rfl rfl Tryd.func12 (by kernel_rfl) rfl #[.string (a0.extract 0 ((ji2) : Int).toNat)] rfl (by (try simp only [List.map_toArray, List.map_cons, List.map_nil]); first | done | (simp only [hji2]; rfl) | rfl | (simp only [List.length_drop, List.length_take]; rfl)) ?_; (with_reducible refine (racewayref26_Escape.calls (a0.extract 0 ((ji2) : Int).toNat) t134 _ A8.out).mono ?_); rintro e w' ⟨rfl, ⟨nd, rfl⟩⟩; refine ⟨_, rfl, ?_⟩) | (go_at_call 13; (with_reducible refine (racewaylaw26_works.calls k  t135 _ A13.out).mono ?_); rintro e w17 ⟨rfl, hb⟩; have n0_ := Aside0.mk (below_step (by repeat (first | (with_reducible first | exact HB.out | apply below_alloc | apply pw_below_drewN | apply below_drew1) | exact HB.out)) hb); clear HB; have HB := n0_; clear n0_; (try clear hb); (try clear hb2); (try clear hk); (try clear hi)))
              go_ret
              exact ⟨by first | rfl | (simp [errW_none, errW_some] <;> rfl) | (simp only [← hji2]; first | rfl | (simp [errW_none, errW_some] <;> rfl)) | (simp [*, errW_none, errW_some] <;> rfl), by repeat (first | (with_reducible first | exact HB.out | apply below_alloc | apply pw_below_drewN | apply below_drew1) | exact HB.out)⟩
            · rw [if_neg c12] at H
              have c12b0 : (t129 == t132) = false := beq_eq_false_iff_ne.mpr c12
              have c12b1 : (t129 != t132) = true := bne_iff_ne.mpr c12
              exact absurd (Option.some.inj H) (by rw [hrt.out]; decide)
          · rw [if_neg c11] at H
            have c11b0 : (t128 == t131) = false := beq_eq_false_iff_ne.mpr c11
            have c11b1 : (t128 != t131) = true := bne_iff_ne.mpr c11
            exact absurd (Option.some.inj H) (by rw [hrt.out]; decide)
        · rw [if_neg c10] at H
          have c10b0 : (t127.toList == t130.toList) = false := beq_eq_false_iff_ne.mpr c10
          have c10b1 : (t127.toList != t130.toList) = true := bne_iff_ne.mpr c10
          exact absurd (Option.some.inj H) (by rw [hrt.out]; decide)
      · rw [if_neg c9] at H
        have c9b0 : (t133.toList == t134.toList) = false := beq_eq_false_iff_ne.mpr c9
        have c9b1 : (t133.toList != t134.toList) = true := bne_iff_ne.mpr c9
        exact absurd (Option.some.inj H) (by rw [hrt.out]; decide)
    · rw [if_neg c4] at H
      exact absurd H (by simp)
  · rw [if_neg c3] at H
    exact absurd H (by simp)
-- LAW racewaylaw26_UrlformEscapes

end Go.Proofs.YtjampnopogdceaaDoor.P
