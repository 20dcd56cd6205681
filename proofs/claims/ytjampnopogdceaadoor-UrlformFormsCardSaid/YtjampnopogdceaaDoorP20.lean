-- Written by the session's own program (wip/tools/myprint.py), over the kit's printer. Lean checks it.
import Derived.Test.YtjampnopogdceaaDoorP0
import Derived.Test.YtjampnopogdceaaDoorP4
import Derived.Test.YtjampnopogdceaaDoorP6
import Derived.Test.YtjampnopogdceaaDoorP9
import Derived.Test.YtjampnopogdceaaDoorP17
import Derived.Test.YtjampnopogdceaaDoorP18
import Derived.Test.YtjampnopogdceaaDoorP19
import Derived.Test.YtjampnopogdceaaDoorGParse
namespace Go.Proofs.YtjampnopogdceaaDoor.P
open Go.RowKit Go.Proofs.YtjampnopogdceaaDoorW.PrintWords Go.Proofs.YtjampnopogdceaaDoorW.PrintLast Go.Proofs.YtjampnopogdceaaDoorW.PrintMore
attribute [local go_sem] max2_int min2_int max_two min_two max_three min_three max_four min_four   -- for this text's walks alone
set_option linter.unusedVariables false
set_option linter.unusedSimpArgs false

/-! ### racewaylaw26_UrlformForms: function 7 -/
def racewaylaw26_UrlformForms.f (k : Nat) (a0 : ByteArray) (l1 : List (S45)) : Option (Bool) := if 0 ≤ (mn (a0.size : Int) 6000) then (if (mn (a0.size : Int) 6000) ≤ (a0.size : Int) then ((racewaylaw26_few.f k l1).bind fun t251 => ((urlform_Parse.f (a0.extract 0 ((mn (a0.size : Int) 6000) : Int).toNat)).bind fun bt254 => ((racewayref26_Parse.f k (a0.extract 0 ((mn (a0.size : Int) 6000) : Int).toNat)).bind fun bt259 => ((urlform_Print.f k t251).bind fun bt264 => ((racewayref26_Print.f k t251).bind fun bt266 => ((racewayref26_Same.f k bt254.1 bt259.1).bind fun t268 => (if t268 = true then (if bt254.2.1 = bt259.2.1 then (if bt254.2.2 = bt259.2.2 then (if bt264.1.toList = bt266.1.toList then (if bt264.2 = bt266.2 then ((racewaylaw26_works.f k).bind fun t269 => (some t269)) else (some false)) else (some false)) else (some false)) else (some false)) else (some false)))))))) else (none)) else (none)
theorem racewaylaw26_UrlformForms.mono : ∀ a0 a1 k, LeO (racewaylaw26_UrlformForms.f k a0 a1) (racewaylaw26_UrlformForms.f (k + 1) a0 a1) := by
  intro a0 a1 k
  unfold racewaylaw26_UrlformForms.f
  repeat' first
      | (with_reducible exact racewaylaw26_few.mono _ _)
      | (with_reducible exact racewaylaw26_works.mono _)
      | (with_reducible exact racewayref26_Parse.mono _ _)
      | (with_reducible exact racewayref26_Print.mono _ _)
      | (with_reducible exact racewayref26_Same.mono _ _ _)
      | (with_reducible exact urlform_Print.mono _ _)
      | (with_reducible exact LeO.refl _)
      | (with_reducible exact LeO.none _)
      | (with_reducible refine LeO.ite ?_ ?_)
      | (with_reducible refine LeO.bind ?_ (fun _ => ?_))
      | exact racewaylaw26_few.mono _ _
      | exact racewaylaw26_works.mono _
      | exact racewayref26_Parse.mono _ _
      | exact racewayref26_Print.mono _ _
      | exact racewayref26_Same.mono _ _ _
      | exact urlform_Print.mono _ _
      | exact LeO.none _
      | refine LeO.ite ?_ ?_
      | refine LeO.bind ?_ (fun _ => ?_)
def racewaylaw26_UrlformForms.T1 : Bool × List (List Nat × List Nat) := (true, [([], []), ([], []), ([1], [1]), ([2], [2]), ([0, 3], [0, 3]), ([], []), ([5], [5]), ([4, 6, 0, 1, 2, 3, 4], [0, 1, 4]), ([6, 7, 0, 1, 2, 3, 4, 5, 6, 7], [5, 6])])
def racewaylaw26_UrlformForms.B1 : List Nat := [0, 0, 2, 6, 15, 0, 32, 127, 255]
theorem racewaylaw26_UrlformForms.tab1 : rtab .any (opsOf Tryd.f7 1) = racewaylaw26_UrlformForms.T1 := by kernel_rfl
theorem racewaylaw26_UrlformForms.bits1 : waitsOk racewaylaw26_UrlformForms.T1.2 racewaylaw26_UrlformForms.B1 = true := by kernel_rfl
set_option maxHeartbeats 8000000 in
set_option maxRecDepth 100000 in
theorem racewaylaw26_UrlformForms.calls (k : Nat) (a0 : ByteArray) (A1 : Option Addr) (c1 : Nat) (l1 : List (S45)) (r : Bool) (w : World) (hr1 : Kd.C k45 w A1 l1.length l1) (hc1 : l1.length ≤ c1) (h : racewaylaw26_UrlformForms.f k a0 l1 = some r) (hrt : Aside0 (r = true)) :
    Calls Tryd.prog 7 #[.string a0, .slice A1 l1.length c1] w fun e w' => e = .returned (.bool r) ∧ Below w.heap.size w w' := by
  have HR1 := Aside0.mk hr1
  have HC1 := Aside0.mk hc1
  clear hr1 hc1
  have HB := Aside0.mk (Below.refl w.heap.size w)
  have H : (if 0 ≤ (mn (a0.size : Int) 6000) then (if (mn (a0.size : Int) 6000) ≤ (a0.size : Int) then ((racewaylaw26_few.f k l1).bind fun t251 => ((urlform_Parse.f (a0.extract 0 ((mn (a0.size : Int) 6000) : Int).toNat)).bind fun bt254 => ((racewayref26_Parse.f k (a0.extract 0 ((mn (a0.size : Int) 6000) : Int).toNat)).bind fun bt259 => ((urlform_Print.f k t251).bind fun bt264 => ((racewayref26_Print.f k t251).bind fun bt266 => ((racewayref26_Same.f k bt254.1 bt259.1).bind fun t268 => (if t268 = true then (if bt254.2.1 = bt259.2.1 then (if bt254.2.2 = bt259.2.2 then (if bt264.1.toList = bt266.1.toList then (if bt264.2 = bt266.2 then ((racewaylaw26_works.f k).bind fun t269 => (some t269)) else (some false)) else (some false)) else (some false)) else (some false)) else (some false)))))))) else (none)) else (none)) = some r := h
  clear h
  obtain ⟨ji3, hji3⟩ : ∃ j_ : Int, (mn (a0.size : Int) 6000) = j_ := ⟨_, rfl⟩
  replace H : (if 0 ≤ (ji3) then (if (ji3) ≤ (a0.size : Int) then ((racewaylaw26_few.f k l1).bind fun t251 => ((urlform_Parse.f (a0.extract 0 ((ji3) : Int).toNat)).bind fun bt254 => ((racewayref26_Parse.f k (a0.extract 0 ((ji3) : Int).toNat)).bind fun bt259 => ((urlform_Print.f k t251).bind fun bt264 => ((racewayref26_Print.f k t251).bind fun bt266 => ((racewayref26_Same.f k bt254.1 bt259.1).bind fun t268 => (if t268 = true then (if bt254.2.1 = bt259.2.1 then (if bt254.2.2 = bt259.2.2 then (if bt264.1.toList = bt266.1.toList then (if bt264.2 = bt266.2 then ((racewaylaw26_works.f k).bind fun t269 => (some t269)) else (some false)) else (some false)) else (some false)) else (some false)) else (some false)))))))) else (none)) else (none)) = some r := by first | (rw [hji3] at H; exact H) | (simp only [hji3] at H ⊢; exact H)
  (try (have hji3h : ji3 ≤ 6000 := by (rw [← hji3]; unfold mn; (repeat' split) <;> omega)))
  (try (have hji3g : ji3 ≤ 64 := by omega))
  (try (have hji3l : 0 ≤ ji3 := by (rw [← hji3]; unfold mn; (repeat' split) <;> omega)))
  (try (have hji3m : 0 ≤ ji3 := by omega))
  have hji3_ : (if 6000 < (a0.size : Int) then 6000 else (a0.size : Int)) = ji3 := hji3
  by_cases c4 : 0 ≤ (ji3)
  · rw [if_pos c4] at H
    have c4b0 := eq_true c4
    have c4b1 : decide (0 ≤ (ji3)) = true := decide_eq_true c4
    clear c4
    by_cases c5 : (ji3) ≤ (a0.size : Int)
    · rw [if_pos c5] at H
      have c5b0 := eq_true c5
      have c5b1 : decide ((ji3) ≤ (a0.size : Int)) = true := decide_eq_true c5
      clear c5
      replace H := Option.bind_eq_some_iff.mp H
      obtain ⟨t251, A60, H⟩ := H
      replace H : ((urlform_Parse.f (a0.extract 0 ((ji3) : Int).toNat)).bind fun bt254 => ((racewayref26_Parse.f k (a0.extract 0 ((ji3) : Int).toNat)).bind fun bt259 => ((urlform_Print.f k t251).bind fun bt264 => ((racewayref26_Print.f k t251).bind fun bt266 => ((racewayref26_Same.f k bt254.1 bt259.1).bind fun t268 => (if t268 = true then (if bt254.2.1 = bt259.2.1 then (if bt254.2.2 = bt259.2.2 then (if bt264.1.toList = bt266.1.toList then (if bt264.2 = bt266.2 then ((racewaylaw26_works.f k).bind fun t269 => (some t269)) else (some false)) else (some false)) else (some false)) else (some false)) else (some false))))))) = some r := H
      have A6 := Aside0.mk A60
      clear A60
      replace H := Option.bind_eq_some_iff.mp H
      obtain ⟨⟨t254, t255, t256⟩, A70, H⟩ := H
      replace H : ((racewayref26_Parse.f k (a0.extract 0 ((ji3) : Int).toNat)).bind fun bt259 => ((urlform_Print.f k t251).bind fun bt264 => ((racewayref26_Print.f k t251).bind fun bt266 => ((racewayref26_Same.f k t254 bt259.1).bind fun t268 => (if t268 = true then (if t255 = bt259.2.1 then (if t256 = bt259.2.2 then (if bt264.1.toList = bt266.1.toList then (if bt264.2 = bt266.2 then ((racewaylaw26_works.f k).bind fun t269 => (some t269)) else (some false)) else (some false)) else (some false)) else (some false)) else (some false)))))) = some r := H
      have A7 := Aside0.mk A70
      clear A70
      replace H := Option.bind_eq_some_iff.mp H
      obtain ⟨⟨t259, t260, t261⟩, A80, H⟩ := H
      replace H : ((urlform_Print.f k t251).bind fun bt264 => ((racewayref26_Print.f k t251).bind fun bt266 => ((racewayref26_Same.f k t254 t259).bind fun t268 => (if t268 = true then (if t255 = t260 then (if t256 = t261 then (if bt264.1.toList = bt266.1.toList then (if bt264.2 = bt266.2 then ((racewaylaw26_works.f k).bind fun t269 => (some t269)) else (some false)) else (some false)) else (some false)) else (some false)) else (some false))))) = some r := H
      have A8 := Aside0.mk A80
      clear A80
      replace H := Option.bind_eq_some_iff.mp H
      obtain ⟨⟨t264, t265⟩, A90, H⟩ := H
      replace H : ((racewayref26_Print.f k t251).bind fun bt266 => ((racewayref26_Same.f k t254 t259).bind fun t268 => (if t268 = true then (if t255 = t260 then (if t256 = t261 then (if t264.toList = bt266.1.toList then (if t265 = bt266.2 then ((racewaylaw26_works.f k).bind fun t269 => (some t269)) else (some false)) else (some false)) else (some false)) else (some false)) else (some false)))) = some r := H
      have A9 := Aside0.mk A90
      clear A90
      replace H := Option.bind_eq_some_iff.mp H
      obtain ⟨⟨t266, t267⟩, A100, H⟩ := H
      replace H : ((racewayref26_Same.f k t254 t259).bind fun t268 => (if t268 = true then (if t255 = t260 then (if t256 = t261 then (if t264.toList = t266.toList then (if t265 = t267 then ((racewaylaw26_works.f k).bind fun t269 => (some t269)) else (some false)) else (some false)) else (some false)) else (some false)) else (some false))) = some r := H
      have A10 := Aside0.mk A100
      clear A100
      replace H := Option.bind_eq_some_iff.mp H
      obtain ⟨t268, A110, H⟩ := H
      replace H : (if t268 = true then (if t255 = t260 then (if t256 = t261 then (if t264.toList = t266.toList then (if t265 = t267 then ((racewaylaw26_works.f k).bind fun t269 => (some t269)) else (some false)) else (some false)) else (some false)) else (some false)) else (some false)) = some r := H
      have A11 := Aside0.mk A110
      clear A110
      by_cases c12 : t268 = true
      · subst c12
        have H1 : (if t255 = t260 then (if t256 = t261 then (if t264.toList = t266.toList then (if t265 = t267 then ((racewaylaw26_works.f k).bind fun t269 => (some t269)) else (some false)) else (some false)) else (some false)) else (some false)) = some r := by rw [if_pos rfl] at H; exact H
        clear H
        have H := H1
        clear H1
        by_cases c13 : t255 = t260
        · rw [if_pos c13] at H
          have c13b0 : (t255 == t260) = true := beq_iff_eq.mpr c13
          have c13b1 : (t255 != t260) = false := bne_eq_false_iff_eq.mpr c13
          clear c13
          by_cases c14 : t256 = t261
          · rw [if_pos c14] at H
            have c14b0 : (t256 == t261) = true := beq_iff_eq.mpr c14
            have c14b1 : (t256 != t261) = false := bne_eq_false_iff_eq.mpr c14
            clear c14
            by_cases c15 : t264.toList = t266.toList
            · rw [if_pos c15] at H
              have c15b0 : (t264.toList == t266.toList) = true := beq_iff_eq.mpr c15
              have c15b1 : (t264.toList != t266.toList) = false := bne_eq_false_iff_eq.mpr c15
              clear c15
              by_cases c16 : t265 = t267
              · rw [if_pos c16] at H
                have c16b0 : (t265 == t267) = true := beq_iff_eq.mpr c16
                have c16b1 : (t265 != t267) = false := bne_eq_false_iff_eq.mpr c16
                clear c16
                replace H := Option.bind_eq_some_iff.mp H
                obtain ⟨t269, A170, H⟩ := H
                replace H : (some t269) = some r := H
                have A17 := Aside0.mk A170
                clear A170
                obtain rfl := Option.some.inj H
                go_enter Tryd.func7, Tryd.ntmps7
                try go_wp2
                have n0_ := Aside0.mk (below_drew1 HB.out)
                clear HB
                have HB := n0_
                clear n0_
                refine start_ (n := 9) (S := fun w' => True) (ds := []) #[false, false, false, false, false, false, false, false, false] (by kernel_rfl) rfl rfl trivial (fun hHeld => ?_); refine with_tabW racewaylaw26_UrlformForms.tab1 racewaylaw26_UrlformForms.bits1 (fun HT_ HW_ => ?_)
                generalize w.drew = w18 at HB hHeld ⊢
                refine pure_ (i := 0) (N := some 15) (v := ?_) (a' := ?_) #[true, false, false, false, false, false, false, false, false] rfl rfl (any_of HT_.out (by kernel_rfl)) (fun _ _ _ h => h) (Or.inl ⟨by rfl, ?_⟩) ?_ ?_
                rotate_left
                · intro w'
                  go_simp
                  with_reducible rfl
                rotate_left
                · simp only [Act.put, List.setIfInBounds_toArray, List.set_cons_zero, List.set_cons_succ, i64_w, i32_w]
                  rfl
                refine pure_ (i := 1) (N := some 16) (v := ?_) (a' := ?_) #[true, true, false, false, false, false, false, false, false] rfl rfl (any_of HT_.out (by kernel_rfl)) (fun _ _ _ h => h) (Or.inl ⟨by rfl, ?_⟩) ?_ ?_
                rotate_left
                · intro w'
                  go_simp
                  with_reducible rfl
                rotate_left
                · simp only [Act.put, List.setIfInBounds_toArray, List.set_cons_zero, List.set_cons_succ, i64_w, i32_w]
                  rfl
                refine pure_ (i := 2) (N := some 17) (v := ?_) (a' := ?_) #[true, true, true, false, false, false, false, false, false] rfl rfl (any_of HT_.out (by kernel_rfl)) (fun _ _ _ h => h) (Or.inl ⟨by rfl, ?_⟩) ?_ ?_
                rotate_left
                · intro w'
                  go_simp
                  with_reducible rfl
                rotate_left
                · simp only [Act.put, List.setIfInBounds_toArray, List.set_cons_zero, List.set_cons_succ, i64_w, i32_w]
                  rfl
                refine pure_ (i := 3) (N := some 18) (v := ?_) (a' := ?_) #[true, true, true, true, false, false, false, false, false] rfl rfl (any_of HT_.out (by kernel_rfl)) (fun _ _ _ h => h) (Or.inl ⟨by rfl, ?_⟩) ?_ ?_
                rotate_left
                · intro w'
                  go_simp
                  with_reducible rfl
                rotate_left
                · simp only [Act.put, List.setIfInBounds_toArray, List.set_cons_zero, List.set_cons_succ, i64_w, i32_w]
                  rfl
                refine pure_ (i := 4) (N := some 19) (v := ?_) (a' := ?_) #[true, true, true, true, true, false, false, false, false] rfl rfl (any_of HT_.out (by kernel_rfl)) (fun _ _ _ h => h) (Or.inl ⟨by rfl, ?_⟩) ?_ ?_
                rotate_left
                · intro w'
                  go_simp
                  with_reducible rfl
                rotate_left
                · simp only [Act.put, List.setIfInBounds_toArray, List.set_cons_zero, List.set_cons_succ, i64_w, i32_w]
                  rfl
                refine pure_ (i := 5) (N := some 20) (v := ?_) (a' := ?_) #[true, true, true, true, true, true, false, false, false] rfl rfl (any_of HT_.out (by kernel_rfl)) (fun _ _ _ h => h) (Or.inl ⟨by rfl, ?_⟩) ?_ ?_
                rotate_left
                · intro w'
                  go_simp
                  with_reducible rfl
                rotate_left
                · simp only [Act.put, List.setIfInBounds_toArray, List.set_cons_zero, List.set_cons_succ, i64_w, i32_w]
                  rfl
                refine one_ (i := 6) (N := some 21) #[true, true, true, true, true, true, true, false, false] rfl rfl (one_of HT_.out (by kernel_rfl)) (by decide) (fun K hK => ?_)
                refine goes_ Tryd.func16 (by kernel_rfl) rfl #[.slice A1 l1.length c1] (by rfl) rfl rfl (by (try simp only [List.map_toArray, List.map_cons, List.map_nil]); first | done | rfl | (simp only [List.length_drop, List.length_take]; rfl)) ?_
                with_reducible refine (racewaylaw26_few.calls k _ _ l1 t251 _ ?side1 ?side2 A6.out).mono ?_
                (case side1 => repeat (first | exact (Kd.C_below HR1.out HB.out) | (with_reducible refine Kd.C_alloc ?_ _) | (with_reducible refine Kd.C_drewN ?_ _) | (with_reducible refine Kd.C_drew ?_)))
                (case side2 => exact HC1.out)
                rintro e w19 ⟨v252, rfl, ho0, hb⟩
                refine ⟨_, rfl, ?_⟩
                have n0_ := Aside0.mk (Kd.R_lower ho0 (below_size (by repeat (first | (with_reducible first | exact HB.out | apply below_alloc | apply pw_below_drewN | apply below_drew1) | exact HB.out))))
                have n1_ := Aside0.mk (below_step (by repeat (first | (with_reducible first | exact HB.out | apply below_alloc | apply pw_below_drewN | apply below_drew1) | exact HB.out)) hb)
                clear HB
                have HO253 := n0_
                have HB := n1_
                clear n0_ n1_
                (try clear hb)
                (try clear hb2)
                (try clear hk)
                (try clear hi)
                (try clear ho0)
                refine hK.out _ _ trivial (fun hHeld => ?_)
                clear hK K
                refine norm_ (a' := ?_) ?_ ?_
                rotate_left
                · show Act.put _ (some 21) _ = _
                  simp only [Act.put, List.setIfInBounds_toArray, List.set_cons_zero, List.set_cons_succ, i64_w, i32_w]
                  rfl
                refine pure_ (i := 7) (N := some 0) (v := ?_) (a' := ?_) #[true, true, true, true, true, true, true, true, false] rfl rfl (any_of HT_.out (by kernel_rfl)) (fun _ _ _ h => h) (Or.inl ⟨by rfl, ?_⟩) ?_ ?_
                rotate_left
                · intro w'
                  go_simp
                  with_reducible rfl
                rotate_left
                · simp only [Act.put, List.setIfInBounds_toArray, List.set_cons_zero, List.set_cons_succ, i64_w, i32_w]
                  rfl
                refine pure_ (i := 8) (N := some 1) (v := ?_) (a' := ?_) #[true, true, true, true, true, true, true, true, true] rfl rfl (any_of HT_.out (by kernel_rfl)) (fun _ _ _ h => h) (Or.inl ⟨by rfl, ?_⟩) ?_ ?_
                rotate_left
                · intro w'
                  go_simp
                  with_reducible rfl
                rotate_left
                · simp only [Act.put, List.setIfInBounds_toArray, List.set_cons_zero, List.set_cons_succ, i64_w, i32_w]
                  rfl
                refine done_ (done_of HT_.out (by kernel_rfl)) ?_
                try go_wp2_with (first | ((with_reducible refine gate_callee (f := 14) rfl ?_); refine goesL_ (some 24) rfl rfl Tryd.func14 (by kernel_rfl) rfl #[.string (a0.extract 0 ((ji3) : Int).toNat)] rfl (by (try simp only [List.map_toArray, List.map_cons, List.map_nil]); first | done | (simp only [hji3]; rfl) | rfl | (simp only [List.length_drop, List.length_take]; rfl)) ?_; (with_reducible refine (urlform_Parse.calls (a0.extract 0 ((ji3) : Int).toNat) t254 t255 t256 _ A7.out).mono ?_); rintro e w20 ⟨v257, rfl, ho0, hb⟩; refine ⟨_, rfl, ?_⟩; have n0_ := Aside0.mk (Kd.R_elder' (by (with_reducible repeat (first | apply Kd.R_alloc | apply Kd.R_drewN | apply Kd.R_drew)); exact HO253.out) (Kd.R_base ho0) hb); have n1_ := Aside0.mk (Kd.R_lower (Kd.R_new' ho0 (Kd.R_lt (by (with_reducible repeat (first | apply Kd.R_alloc | apply Kd.R_drewN | apply Kd.R_drew)); exact HO253.out))) (below_size (by repeat (first | (with_reducible first | exact HB.out | apply below_alloc | apply pw_below_drewN | apply below_drew1) | exact HB.out)))); have n2_ := Aside0.mk (below_step (by repeat (first | (with_reducible first | exact HB.out | apply below_alloc | apply pw_below_drewN | apply below_drew1) | exact HB.out)) hb); clear HO253; clear HB; have HO253 := n0_; have HO258 := n1_; have HB := n2_; clear n0_ n1_ n2_; (try clear hb); (try clear hb2); (try clear hk); (try clear hi); (try clear ho0)) | ((with_reducible refine gate_callee (f := 23) rfl ?_); refine goesL_ (some 30) rfl rfl Tryd.func23 (by kernel_rfl) rfl #[.string (a0.extract 0 ((ji3) : Int).toNat)] rfl (by (try simp only [List.map_toArray, List.map_cons, List.map_nil]); first | done | (simp only [hji3]; rfl) | rfl | (simp only [List.length_drop, List.length_take]; rfl)) ?_; (with_reducible refine (racewayref26_Parse.calls k (a0.extract 0 ((ji3) : Int).toNat) t259 t260 t261 _ A8.out).mono ?_); rintro e w21 ⟨v262, rfl, ho0, hb⟩; refine ⟨_, rfl, ?_⟩; have n0_ := Aside0.mk (Kd.R_elder' (by (with_reducible repeat (first | apply Kd.R_alloc | apply Kd.R_drewN | apply Kd.R_drew)); exact HO253.out) (Kd.R_base ho0) hb); have n1_ := Aside0.mk (Kd.R_elder' (by (with_reducible repeat (first | apply Kd.R_alloc | apply Kd.R_drewN | apply Kd.R_drew)); exact HO258.out) (Kd.R_base ho0) hb); have n2_ := Aside0.mk (Kd.R_lower (Kd.R_new' (Kd.R_new' ho0 (Kd.R_lt (by (with_reducible repeat (first | apply Kd.R_alloc | apply Kd.R_drewN | apply Kd.R_drew)); exact HO253.out))) (Kd.R_lt (by (with_reducible repeat (first | apply Kd.R_alloc | apply Kd.R_drewN | apply Kd.R_drew)); exact HO258.out))) (below_size (by repeat (first | (with_reducible first | exact HB.out | apply below_alloc | apply pw_below_drewN | apply below_drew1) | exact HB.out)))); have n3_ := Aside0.mk (below_step (by repeat (first | (with_reducible first | exact HB.out | apply below_alloc | apply pw_below_drewN | apply below_drew1) | exact HB.out)) hb); clear HO253; clear HO258; clear HB; have HO253 := n0_; have HO258 := n1_; have HO263 := n2_; have HB := n3_; clear n0_ n1_ n2_ n3_; (try clear hb); (try clear hb2); (try clear hk); (try clear hi); (try clear ho0); obtain ⟨Ao22, co22, eo22⟩ := Kd.R_slice HO253.out; subst eo22) | ((with_reducible refine gate_callee (f := 24) rfl ?_); refine goesL_ (some 36) rfl rfl Tryd.func24 (by kernel_rfl) rfl #[.slice Ao22 t251.length co22] rfl (by (try simp only [List.map_toArray, List.map_cons, List.map_nil]); first | done | rfl | (simp only [List.length_drop, List.length_take]; rfl)) ?_; (with_reducible refine (urlform_Print.calls k _ _ t251 t264 t265 _ ?side1 ?side2 A9.out).mono ?_); (case side1 => repeat (first | exact (Kd.R_reads' HO253.out).2.2 | (with_reducible refine Kd.C_alloc ?_ _) | (with_reducible refine Kd.C_drewN ?_ _) | (with_reducible refine Kd.C_drew ?_))); (case side2 => exact (Kd.R_reads' HO253.out).2.1); rintro e w23 ⟨rfl, hb⟩; refine ⟨_, rfl, ?_⟩; have n0_ := Aside0.mk (Kd.R_below (by (with_reducible repeat (first | apply Kd.R_alloc | apply Kd.R_drewN | apply Kd.R_drew)); exact HO253.out) hb); have n1_ := Aside0.mk (Kd.R_below (by (with_reducible repeat (first | apply Kd.R_alloc | apply Kd.R_drewN | apply Kd.R_drew)); exact HO258.out) hb); have n2_ := Aside0.mk (Kd.R_below (by (with_reducible repeat (first | apply Kd.R_alloc | apply Kd.R_drewN | apply Kd.R_drew)); exact HO263.out) hb); have n3_ := Aside0.mk (below_step (by repeat (first | (with_reducible first | exact HB.out | apply below_alloc | apply pw_below_drewN | apply below_drew1) | exact HB.out)) hb); clear HO253; clear HO258; clear HO263; clear HB; have HO253 := n0_; have HO258 := n1_; have HO263 := n2_; have HB := n3_; clear n0_ n1_ n2_ n3_; (try clear hb); (try clear hb2); (try clear hk); (try clear hi)) | ((with_reducible refine gate_callee (f := 25) rfl ?_); refine goesL_ (some 41) rfl rfl Tryd.func25 (by kernel_rfl) rfl #[.slice Ao22 t251.length co22] rfl (by (try simp only [List.map_toArray, List.map_cons, List.map_nil]); first | done | rfl | (simp only [List.length_drop, List.length_take]; rfl)) ?_; (with_reducible refine (racewayref26_Print.calls k _ _ t251 t266 t267 _ ?side1 ?side2 A10.out).mono ?_); (case side1 => repeat (first | exact (Kd.R_reads' HO253.out).2.2 | (with_reducible refine Kd.C_alloc ?_ _) | (with_reducible refine Kd.C_drewN ?_ _) | (with_reducible refine Kd.C_drew ?_))); (case side2 => exact (Kd.R_reads' HO253.out).2.1); rintro e w' ⟨rfl, ⟨nd, rfl⟩⟩; refine ⟨_, rfl, ?_⟩; obtain ⟨Ao24, co24, eo24⟩ := Kd.R_slice HO258.out; subst eo24; obtain ⟨Ao25, co25, eo25⟩ := Kd.R_slice HO263.out; subst eo25) | ((with_reducible refine gate_callee (f := 15) rfl ?_); refine goesL_ (some 46) rfl rfl Tryd.func15 (by kernel_rfl) rfl #[.slice Ao24 t254.length co24, .slice Ao25 t259.length co25] rfl (by (try simp only [List.map_toArray, List.map_cons, List.map_nil]); first | done | rfl | (simp only [List.length_drop, List.length_take]; rfl)) ?_; (with_reducible refine (racewayref26_Same.calls k _ _ t254 _ _ t259 true _ ?side1 ?side2 ?side3 ?side4 A11.out).mono ?_); (case side1 => repeat (first | exact (Kd.R_reads' HO258.out).2.2 | (with_reducible refine Kd.C_alloc ?_ _) | (with_reducible refine Kd.C_drewN ?_ _) | (with_reducible refine Kd.C_drew ?_))); (case side2 => exact (Kd.R_reads' HO258.out).2.1); (case side3 => repeat (first | exact (Kd.R_reads' HO263.out).2.2 | (with_reducible refine Kd.C_alloc ?_ _) | (with_reducible refine Kd.C_drewN ?_ _) | (with_reducible refine Kd.C_drew ?_))); (case side4 => exact (Kd.R_reads' HO263.out).2.1); rintro e w' ⟨rfl, ⟨nd, rfl⟩⟩; refine ⟨_, rfl, ?_⟩) | (go_at_call 13; (with_reducible refine (racewaylaw26_works.calls k  t269 _ A17.out).mono ?_); rintro e w26 ⟨rfl, hb⟩; have n0_ := Aside0.mk (Kd.R_below (by (with_reducible repeat (first | apply Kd.R_alloc | apply Kd.R_drewN | apply Kd.R_drew)); exact HO253.out) hb); have n1_ := Aside0.mk (Kd.R_below (by (with_reducible repeat (first | apply Kd.R_alloc | apply Kd.R_drewN | apply Kd.R_drew)); exact HO258.out) hb); have n2_ := Aside0.mk (Kd.R_below (by (with_reducible repeat (first | apply Kd.R_alloc | apply Kd.R_drewN | apply Kd.R_drew)); exact HO263.out) hb); have n3_ := Aside0.mk (below_step (by repeat (first | (with_reducible first | exact HB.out | apply below_alloc | apply pw_below_drewN | apply below_drew1) | exact HB.out)) hb); clear HO253; clear HO258; clear HO263; clear HB; have HO253 := n0_; have HO258 := n1_; have HO263 := n2_; have HB := n3_; clear n0_ n1_ n2_ n3_; (try clear hb); (try clear hb2); (try clear hk); (try clear hi)))
                go_ret
                exact ⟨by first | rfl | (simp [errW_none, errW_some] <;> rfl) | (simp only [← hji3]; first | rfl | (simp [errW_none, errW_some] <;> rfl)) | (simp [*, errW_none, errW_some] <;> rfl), by repeat (first | (with_reducible first | exact HB.out | apply below_alloc | apply pw_below_drewN | apply below_drew1) | exact HB.out)⟩
              · rw [if_neg c16] at H
                have c16b0 : (t265 == t267) = false := beq_eq_false_iff_ne.mpr c16
                have c16b1 : (t265 != t267) = true := bne_iff_ne.mpr c16
                exact absurd (Option.some.inj H) (by rw [hrt.out]; decide)
            · rw [if_neg c15] at H
              have c15b0 : (t264.toList == t266.toList) = false := beq_eq_false_iff_ne.mpr c15
              have c15b1 : (t264.toList != t266.toList) = true := bne_iff_ne.mpr c15
              exact absurd (Option.some.inj H) (by rw [hrt.out]; decide)
          · rw [if_neg c14] at H
            have c14b0 : (t256 == t261) = false := beq_eq_false_iff_ne.mpr c14
            have c14b1 : (t256 != t261) = true := bne_iff_ne.mpr c14
            exact absurd (Option.some.inj H) (by rw [hrt.out]; decide)
        · rw [if_neg c13] at H
          have c13b0 : (t255 == t260) = false := beq_eq_false_iff_ne.mpr c13
          have c13b1 : (t255 != t260) = true := bne_iff_ne.mpr c13
          exact absurd (Option.some.inj H) (by rw [hrt.out]; decide)
      · replace c12 := Bool.eq_false_iff.mpr c12
        subst c12
        have H1 : (some false) = some r := by rw [if_neg (show ¬ (false = true) by decide)] at H; exact H
        clear H
        have H := H1
        clear H1
        exact absurd (Option.some.inj H) (by rw [hrt.out]; decide)
    · rw [if_neg c5] at H
      exact absurd H (by simp)
  · rw [if_neg c4] at H
    exact absurd H (by simp)
-- LAW racewaylaw26_UrlformForms

-- NOT PRINTED: function 8 (racewaylaw26_UrlformBack)

end Go.Proofs.YtjampnopogdceaaDoor.P
