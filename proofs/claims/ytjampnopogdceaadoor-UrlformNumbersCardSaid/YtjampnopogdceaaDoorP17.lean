-- Written by the session's own program (wip/tools/myprint.py), over the kit's printer. Lean checks it.
import Derived.Test.YtjampnopogdceaaDoorP0
import Derived.Test.YtjampnopogdceaaDoorP4
import Derived.Test.YtjampnopogdceaaDoorP6
import Derived.Test.YtjampnopogdceaaDoorP9
import Derived.Test.YtjampnopogdceaaDoorP10
import Derived.Test.YtjampnopogdceaaDoorP13
import Derived.Test.YtjampnopogdceaaDoorP15
import Derived.Test.YtjampnopogdceaaDoorP16
import Derived.Test.YtjampnopogdceaaDoorGGet
import Derived.Test.YtjampnopogdceaaDoorGNum
namespace Go.Proofs.YtjampnopogdceaaDoor.P
open Go.RowKit Go.Proofs.YtjampnopogdceaaDoorW.PrintWords Go.Proofs.YtjampnopogdceaaDoorW.PrintLast Go.Proofs.YtjampnopogdceaaDoorW.PrintMore
attribute [local go_sem] max2_int min2_int max_two min_two max_three min_three max_four min_four   -- for this text's walks alone
set_option linter.unusedVariables false
set_option linter.unusedSimpArgs false

/-! ### racewaylaw26_UrlformNumbers: function 6 -/
def racewaylaw26_UrlformNumbers.l0 : Nat → List (S45) → ByteArray → List Int → Int → List Int → Int → ByteArray → Bool → ByteArray → Bool → Int → Option (Bool)
  | 0, _, _, _, _, _, _, _, _, _, _, _ => none
  | k + 1, x0, x1, x5, x6, x7, x8, x9, x10, x11, x12, x13 => if x13 ≥ 0 then (if 0 ≤ x13 then (if x13 < (x0.length : Int) then (if ((rd_T45 x0 x13).f0).toList = x1.toList then (racewaylaw26_UrlformNumbers.l0 k x0 x1 x5 x6 x7 x8 x9 x10 ((rd_T45 x0 x13).f1) true (wrap64 (x13 - 1))) else (racewaylaw26_UrlformNumbers.l0 k x0 x1 x5 x6 x7 x8 x9 x10 x11 x12 (wrap64 (x13 - 1)))) else (none)) else (none)) else ((urlform_Under.f k x0 x1).bind fun t227 => ((racewayref26_Under.f k x0 x1).bind fun t230 => ((racewayref26_Same.f k t227 t230).bind fun t233 => (if t233 = true then ((racewayref01_SameNums.f k x5 x7).bind fun t234 => (if t234 = true then (if x6 = x8 then (if x9.toList = x11.toList then (if (x10 == x12) = true then ((racewaylaw26_works.f k).bind fun t235 => (some t235)) else (some false)) else (some false)) else (some false)) else (some false))) else (some false)))))
def racewaylaw26_UrlformNumbers.f (k : Nat) (l0 : List (S45)) (a1 : ByteArray) : Option (Bool) := (racewaylaw26_few.f k l0).bind fun t212 => (if 0 ≤ (mn (a1.size : Int) 50) then (if (mn (a1.size : Int) 50) ≤ (a1.size : Int) then ((urlform_Numbered.f k t212 (a1.extract 0 ((mn (a1.size : Int) 50) : Int).toNat)).bind fun bt215 => ((racewayref26_Numbered.f k t212 (a1.extract 0 ((mn (a1.size : Int) 50) : Int).toNat)).bind fun bt219 => ((urlform_Get.f t212 (a1.extract 0 ((mn (a1.size : Int) 50) : Int).toNat)).bind fun bt223 => (racewaylaw26_UrlformNumbers.l0 k t212 (a1.extract 0 ((mn (a1.size : Int) 50) : Int).toNat) bt215.1 bt215.2 bt219.1 bt219.2 bt223.1 bt223.2 (⟨#[]⟩ : ByteArray) false (wrap64 ((t212.length : Int) - 1)))))) else (none)) else (none))
theorem racewaylaw26_UrlformNumbers.mono_l : ∀ k, (∀ y0 y1 y2 y3 y4 y5 y6 y7 y8 y9 y10, LeO (racewaylaw26_UrlformNumbers.l0 k y0 y1 y2 y3 y4 y5 y6 y7 y8 y9 y10) (racewaylaw26_UrlformNumbers.l0 (k + 1) y0 y1 y2 y3 y4 y5 y6 y7 y8 y9 y10))
  | 0 => fun _ _ _ _ _ _ _ _ _ _ _ r h => by simp [racewaylaw26_UrlformNumbers.l0] at h
  | k + 1 => by
    have ih0 := racewaylaw26_UrlformNumbers.mono_l k
    · intro y0 y1 y2 y3 y4 y5 y6 y7 y8 y9 y10
      unfold racewaylaw26_UrlformNumbers.l0
      repeat' first
      | (with_reducible exact ih0 _ _ _ _ _ _ _ _ _ _ _)
      | (with_reducible exact racewaylaw26_few.mono _ _)
      | (with_reducible exact racewaylaw26_works.mono _)
      | (with_reducible exact racewayref01_SameNums.mono _ _ _)
      | (with_reducible exact racewayref26_Numbered.mono _ _ _)
      | (with_reducible exact racewayref26_Same.mono _ _ _)
      | (with_reducible exact racewayref26_Under.mono _ _ _)
      | (with_reducible exact urlform_Numbered.mono _ _ _)
      | (with_reducible exact urlform_Under.mono _ _ _)
      | (with_reducible exact LeO.refl _)
      | (with_reducible exact LeO.none _)
      | (with_reducible refine LeO.ite ?_ ?_)
      | (with_reducible refine LeO.bind ?_ (fun _ => ?_))
      | exact ih0 _ _ _ _ _ _ _ _ _ _ _
      | exact racewaylaw26_few.mono _ _
      | exact racewaylaw26_works.mono _
      | exact racewayref01_SameNums.mono _ _ _
      | exact racewayref26_Numbered.mono _ _ _
      | exact racewayref26_Same.mono _ _ _
      | exact racewayref26_Under.mono _ _ _
      | exact urlform_Numbered.mono _ _ _
      | exact urlform_Under.mono _ _ _
      | exact LeO.none _
      | refine LeO.ite ?_ ?_
      | refine LeO.bind ?_ (fun _ => ?_)
theorem racewaylaw26_UrlformNumbers.mono : ∀ a0 a1 k, LeO (racewaylaw26_UrlformNumbers.f k a0 a1) (racewaylaw26_UrlformNumbers.f (k + 1) a0 a1) := by
  intro a0 a1 k
  have ih0 := racewaylaw26_UrlformNumbers.mono_l k
  unfold racewaylaw26_UrlformNumbers.f
  repeat' first
      | (with_reducible exact ih0 _ _ _ _ _ _ _ _ _ _ _)
      | (with_reducible exact racewaylaw26_few.mono _ _)
      | (with_reducible exact racewaylaw26_works.mono _)
      | (with_reducible exact racewayref01_SameNums.mono _ _ _)
      | (with_reducible exact racewayref26_Numbered.mono _ _ _)
      | (with_reducible exact racewayref26_Same.mono _ _ _)
      | (with_reducible exact racewayref26_Under.mono _ _ _)
      | (with_reducible exact urlform_Numbered.mono _ _ _)
      | (with_reducible exact urlform_Under.mono _ _ _)
      | (with_reducible exact LeO.refl _)
      | (with_reducible exact LeO.none _)
      | (with_reducible refine LeO.ite ?_ ?_)
      | (with_reducible refine LeO.bind ?_ (fun _ => ?_))
      | exact ih0 _ _ _ _ _ _ _ _ _ _ _
      | exact racewaylaw26_few.mono _ _
      | exact racewaylaw26_works.mono _
      | exact racewayref01_SameNums.mono _ _ _
      | exact racewayref26_Numbered.mono _ _ _
      | exact racewayref26_Same.mono _ _ _
      | exact racewayref26_Under.mono _ _ _
      | exact urlform_Numbered.mono _ _ _
      | exact urlform_Under.mono _ _ _
      | exact LeO.none _
      | refine LeO.ite ?_ ?_
      | refine LeO.bind ?_ (fun _ => ?_)
def racewaylaw26_UrlformNumbers.T1 : Bool × List (List Nat × List Nat) := (true, [([], []), ([0], [0]), ([], []), ([], []), ([3], [3]), ([4], [4]), ([2, 5], [2, 5]), ([1, 1, 0, 1], [0, 1]), ([6, 7, 0, 1, 2, 3, 4, 5, 6, 7], [2, 3, 6])])
def racewaylaw26_UrlformNumbers.B1 : List Nat := [0, 1, 0, 0, 8, 24, 60, 3, 255]
theorem racewaylaw26_UrlformNumbers.tab1 : rtab .any (opsOf Tryd.f6 1) = racewaylaw26_UrlformNumbers.T1 := by kernel_rfl
theorem racewaylaw26_UrlformNumbers.bits1 : waitsOk racewaylaw26_UrlformNumbers.T1.2 racewaylaw26_UrlformNumbers.B1 = true := by kernel_rfl
set_option maxHeartbeats 8000000 in
set_option maxRecDepth 100000 in
theorem racewaylaw26_UrlformNumbers.calls (k : Nat) (A0 : Option Addr) (c0 : Nat) (l0 : List (S45)) (a1 : ByteArray) (r : Bool) (w : World) (hr0 : Kd.C k45 w A0 l0.length l0) (hc0 : l0.length ≤ c0) (h : racewaylaw26_UrlformNumbers.f k l0 a1 = some r) (hrt : Aside0 (r = true)) :
    Calls Tryd.prog 6 #[.slice A0 l0.length c0, .string a1] w fun e w' => e = .returned (.bool r) ∧ Below w.heap.size w w' := by
  have HR0 := Aside0.mk hr0
  have HC0 := Aside0.mk hc0
  clear hr0 hc0
  have HB := Aside0.mk (Below.refl w.heap.size w)
  have H : ((racewaylaw26_few.f k l0).bind fun t212 => (if 0 ≤ (mn (a1.size : Int) 50) then (if (mn (a1.size : Int) 50) ≤ (a1.size : Int) then ((urlform_Numbered.f k t212 (a1.extract 0 ((mn (a1.size : Int) 50) : Int).toNat)).bind fun bt215 => ((racewayref26_Numbered.f k t212 (a1.extract 0 ((mn (a1.size : Int) 50) : Int).toNat)).bind fun bt219 => ((urlform_Get.f t212 (a1.extract 0 ((mn (a1.size : Int) 50) : Int).toNat)).bind fun bt223 => (racewaylaw26_UrlformNumbers.l0 k t212 (a1.extract 0 ((mn (a1.size : Int) 50) : Int).toNat) bt215.1 bt215.2 bt219.1 bt219.2 bt223.1 bt223.2 (⟨#[]⟩ : ByteArray) false (wrap64 ((t212.length : Int) - 1)))))) else (none)) else (none))) = some r := h
  clear h
  replace H := Option.bind_eq_some_iff.mp H
  obtain ⟨t212, A30, H⟩ := H
  replace H : (if 0 ≤ (mn (a1.size : Int) 50) then (if (mn (a1.size : Int) 50) ≤ (a1.size : Int) then ((urlform_Numbered.f k t212 (a1.extract 0 ((mn (a1.size : Int) 50) : Int).toNat)).bind fun bt215 => ((racewayref26_Numbered.f k t212 (a1.extract 0 ((mn (a1.size : Int) 50) : Int).toNat)).bind fun bt219 => ((urlform_Get.f t212 (a1.extract 0 ((mn (a1.size : Int) 50) : Int).toNat)).bind fun bt223 => (racewaylaw26_UrlformNumbers.l0 k t212 (a1.extract 0 ((mn (a1.size : Int) 50) : Int).toNat) bt215.1 bt215.2 bt219.1 bt219.2 bt223.1 bt223.2 (⟨#[]⟩ : ByteArray) false (wrap64 ((t212.length : Int) - 1)))))) else (none)) else (none)) = some r := H
  have A3 := Aside0.mk A30
  clear A30
  obtain ⟨ji4, hji4⟩ : ∃ j_ : Int, (mn (a1.size : Int) 50) = j_ := ⟨_, rfl⟩
  replace H : (if 0 ≤ (ji4) then (if (ji4) ≤ (a1.size : Int) then ((urlform_Numbered.f k t212 (a1.extract 0 ((ji4) : Int).toNat)).bind fun bt215 => ((racewayref26_Numbered.f k t212 (a1.extract 0 ((ji4) : Int).toNat)).bind fun bt219 => ((urlform_Get.f t212 (a1.extract 0 ((ji4) : Int).toNat)).bind fun bt223 => (racewaylaw26_UrlformNumbers.l0 k t212 (a1.extract 0 ((ji4) : Int).toNat) bt215.1 bt215.2 bt219.1 bt219.2 bt223.1 bt223.2 (⟨#[]⟩ : ByteArray) false (wrap64 ((t212.length : Int) - 1)))))) else (none)) else (none)) = some r := by first | (rw [hji4] at H; exact H) | (simp only [hji4] at H ⊢; exact H)
  (try rw [hji4] at A3)
  (try (have hji4h : ji4 ≤ 50 := by (rw [← hji4]; unfold mn; (repeat' split) <;> omega)))
  (try (have hji4g : ji4 ≤ 64 := by omega))
  (try (have hji4l : 0 ≤ ji4 := by (rw [← hji4]; unfold mn; (repeat' split) <;> omega)))
  (try (have hji4m : 0 ≤ ji4 := by omega))
  have hji4_ : (if 50 < (a1.size : Int) then 50 else (a1.size : Int)) = ji4 := hji4
  by_cases c5 : 0 ≤ (ji4)
  · rw [if_pos c5] at H
    have c5b0 := eq_true c5
    have c5b1 : decide (0 ≤ (ji4)) = true := decide_eq_true c5
    clear c5
    by_cases c6 : (ji4) ≤ (a1.size : Int)
    · rw [if_pos c6] at H
      have c6b0 := eq_true c6
      have c6b1 : decide ((ji4) ≤ (a1.size : Int)) = true := decide_eq_true c6
      clear c6
      replace H := Option.bind_eq_some_iff.mp H
      obtain ⟨⟨t215, t216⟩, A70, H⟩ := H
      replace H : ((racewayref26_Numbered.f k t212 (a1.extract 0 ((ji4) : Int).toNat)).bind fun bt219 => ((urlform_Get.f t212 (a1.extract 0 ((ji4) : Int).toNat)).bind fun bt223 => (racewaylaw26_UrlformNumbers.l0 k t212 (a1.extract 0 ((ji4) : Int).toNat) t215 t216 bt219.1 bt219.2 bt223.1 bt223.2 (⟨#[]⟩ : ByteArray) false (wrap64 ((t212.length : Int) - 1))))) = some r := H
      have A7 := Aside0.mk A70
      clear A70
      replace H := Option.bind_eq_some_iff.mp H
      obtain ⟨⟨t219, t220⟩, A80, H⟩ := H
      replace H : ((urlform_Get.f t212 (a1.extract 0 ((ji4) : Int).toNat)).bind fun bt223 => (racewaylaw26_UrlformNumbers.l0 k t212 (a1.extract 0 ((ji4) : Int).toNat) t215 t216 t219 t220 bt223.1 bt223.2 (⟨#[]⟩ : ByteArray) false (wrap64 ((t212.length : Int) - 1)))) = some r := H
      have A8 := Aside0.mk A80
      clear A80
      replace H := Option.bind_eq_some_iff.mp H
      obtain ⟨⟨t223, t224⟩, A90, H⟩ := H
      replace H : (racewaylaw26_UrlformNumbers.l0 k t212 (a1.extract 0 ((ji4) : Int).toNat) t215 t216 t219 t220 t223 t224 (⟨#[]⟩ : ByteArray) false (wrap64 ((t212.length : Int) - 1))) = some r := H
      have A9 := Aside0.mk A90
      clear A90
      have H' := Aside0.mk H
      clear H
      go_enter Tryd.func6, Tryd.ntmps6
      try go_wp2
      have n0_ := Aside0.mk (below_drew1 HB.out)
      clear HB
      have HB := n0_
      clear n0_
      refine start_ (n := 9) (S := fun w' => True) (ds := []) #[false, false, false, false, false, false, false, false, false] (by kernel_rfl) rfl rfl trivial (fun hHeld => ?_); refine with_tabW racewaylaw26_UrlformNumbers.tab1 racewaylaw26_UrlformNumbers.bits1 (fun HT_ HW_ => ?_)
      generalize w.drew = w10 at HB hHeld ⊢
      refine pure_ (i := 0) (N := some 14) (v := ?_) (a' := ?_) #[true, false, false, false, false, false, false, false, false] rfl rfl (any_of HT_.out (by kernel_rfl)) (fun _ _ _ h => h) (Or.inl ⟨by rfl, ?_⟩) ?_ ?_
      rotate_left
      · intro w'
        go_simp
        with_reducible rfl
      rotate_left
      · simp only [Act.put, List.setIfInBounds_toArray, List.set_cons_zero, List.set_cons_succ, i64_w, i32_w]
        rfl
      refine pure_ (i := 2) (N := some 16) (v := ?_) (a' := ?_) #[true, false, true, false, false, false, false, false, false] rfl rfl (any_of HT_.out (by kernel_rfl)) (fun _ _ _ h => h) (Or.inl ⟨by rfl, ?_⟩) ?_ ?_
      rotate_left
      · intro w'
        go_simp
        with_reducible rfl
      rotate_left
      · simp only [Act.put, List.setIfInBounds_toArray, List.set_cons_zero, List.set_cons_succ, i64_w, i32_w]
        rfl
      refine pure_ (i := 3) (N := some 17) (v := ?_) (a' := ?_) #[true, false, true, true, false, false, false, false, false] rfl rfl (any_of HT_.out (by kernel_rfl)) (fun _ _ _ h => h) (Or.inl ⟨by rfl, ?_⟩) ?_ ?_
      rotate_left
      · intro w'
        go_simp
        with_reducible rfl
      rotate_left
      · simp only [Act.put, List.setIfInBounds_toArray, List.set_cons_zero, List.set_cons_succ, i64_w, i32_w]
        rfl
      refine pure_ (i := 4) (N := some 18) (v := ?_) (a' := ?_) #[true, false, true, true, true, false, false, false, false] rfl rfl (any_of HT_.out (by kernel_rfl)) (fun _ _ _ h => h) (Or.inl ⟨by rfl, ?_⟩) ?_ ?_
      rotate_left
      · intro w'
        go_simp
        with_reducible rfl
      rotate_left
      · simp only [Act.put, List.setIfInBounds_toArray, List.set_cons_zero, List.set_cons_succ, i64_w, i32_w]
        rfl
      refine pure_ (i := 5) (N := some 19) (v := ?_) (a' := ?_) #[true, false, true, true, true, true, false, false, false] rfl rfl (any_of HT_.out (by kernel_rfl)) (fun _ _ _ h => h) (Or.inl ⟨by rfl, ?_⟩) ?_ ?_
      rotate_left
      · intro w'
        go_simp
        with_reducible rfl
      rotate_left
      · simp only [Act.put, List.setIfInBounds_toArray, List.set_cons_zero, List.set_cons_succ, i64_w, i32_w]
        rfl
      refine pure_ (i := 6) (N := some 20) (v := ?_) (a' := ?_) #[true, false, true, true, true, true, true, false, false] rfl rfl (any_of HT_.out (by kernel_rfl)) (fun _ _ _ h => h) (Or.inl ⟨by rfl, ?_⟩) ?_ ?_
      rotate_left
      · intro w'
        go_simp
        with_reducible rfl
      rotate_left
      · simp only [Act.put, List.setIfInBounds_toArray, List.set_cons_zero, List.set_cons_succ, i64_w, i32_w]
        rfl
      refine one_ (i := 1) (N := some 15) #[true, true, true, true, true, true, true, false, false] rfl rfl (one_of HT_.out (by kernel_rfl)) (by decide) (fun K hK => ?_)
      refine goes_ Tryd.func16 (by kernel_rfl) rfl #[.slice A0 l0.length c0] (by rfl) rfl rfl (by (try simp only [List.map_toArray, List.map_cons, List.map_nil]); first | done | rfl | (simp only [List.length_drop, List.length_take]; rfl)) ?_
      with_reducible refine (racewaylaw26_few.calls k _ _ l0 t212 _ ?side1 ?side2 A3.out).mono ?_
      (case side1 => repeat (first | exact (Kd.C_below HR0.out HB.out) | (with_reducible refine Kd.C_alloc ?_ _) | (with_reducible refine Kd.C_drewN ?_ _) | (with_reducible refine Kd.C_drew ?_)))
      (case side2 => exact HC0.out)
      rintro e w11 ⟨v213, rfl, ho0, hb⟩
      refine ⟨_, rfl, ?_⟩
      have n0_ := Aside0.mk (Kd.R_lower ho0 (below_size (by repeat (first | (with_reducible first | exact HB.out | apply below_alloc | apply pw_below_drewN | apply below_drew1) | exact HB.out))))
      have n1_ := Aside0.mk (below_step (by repeat (first | (with_reducible first | exact HB.out | apply below_alloc | apply pw_below_drewN | apply below_drew1) | exact HB.out)) hb)
      clear HB
      have HO214 := n0_
      have HB := n1_
      clear n0_ n1_
      (try clear hb)
      (try clear hb2)
      (try clear hk)
      (try clear hi)
      (try clear ho0)
      refine hK.out _ _ trivial (fun hHeld => ?_)
      clear hK K
      refine norm_ (a' := ?_) ?_ ?_
      rotate_left
      · show Act.put _ (some 15) _ = _
        simp only [Act.put, List.setIfInBounds_toArray, List.set_cons_zero, List.set_cons_succ, i64_w, i32_w]
        rfl
      refine pure_ (i := 7) (N := some 0) (v := ?_) (a' := ?_) #[true, true, true, true, true, true, true, true, false] rfl rfl (any_of HT_.out (by kernel_rfl)) (fun _ _ _ h => h) (Or.inl ⟨by rfl, ?_⟩) ?_ ?_
      rotate_left
      · intro w'
        go_simp
        with_reducible rfl
      rotate_left
      · simp only [Act.put, List.setIfInBounds_toArray, List.set_cons_zero, List.set_cons_succ, i64_w, i32_w]
        rfl
      refine pure_ (i := 8) (N := some 1) (v := ?_) (a' := ?_) #[true, true, true, true, true, true, true, true, true] rfl rfl (any_of HT_.out (by kernel_rfl)) (fun _ _ _ h => h) (Or.inl ⟨by rfl, ?_⟩) ?_ ?_
      rotate_left
      · intro w'
        go_simp
        with_reducible rfl
      rotate_left
      · simp only [Act.put, List.setIfInBounds_toArray, List.set_cons_zero, List.set_cons_succ, i64_w, i32_w]
        rfl
      refine done_ (done_of HT_.out (by kernel_rfl)) ?_
      obtain ⟨Ao12, co12, eo12⟩ := Kd.R_slice HO214.out
      subst eo12
      try go_wp2_with (first | ((with_reducible refine gate_callee (f := 17) rfl ?_); refine goesL_ (some 24) rfl rfl Tryd.func17 (by kernel_rfl) rfl #[.slice Ao12 t212.length co12, .string (a1.extract 0 ((ji4) : Int).toNat)] rfl (by (try simp only [List.map_toArray, List.map_cons, List.map_nil]); first | done | (simp only [hji4]; rfl) | rfl | (simp only [List.length_drop, List.length_take]; rfl)) ?_; (with_reducible refine (urlform_Numbered.calls k _ _ t212 (a1.extract 0 ((ji4) : Int).toNat) t215 t216 _ ?side1 ?side2 A7.out).mono ?_); (case side1 => repeat (first | exact (Kd.R_reads' HO214.out).2.2 | (with_reducible refine Kd.C_alloc ?_ _) | (with_reducible refine Kd.C_drewN ?_ _) | (with_reducible refine Kd.C_drew ?_))); (case side2 => exact (Kd.R_reads' HO214.out).2.1); rintro e w13 ⟨v217, rfl, ho0, hb⟩; refine ⟨_, rfl, ?_⟩; have n0_ := Aside0.mk (Kd.R_below (by (with_reducible repeat (first | apply Kd.R_alloc | apply Kd.R_drewN | apply Kd.R_drew)); exact HO214.out) hb); have n1_ := Aside0.mk (Kd.R_lower ho0 (below_size (by repeat (first | (with_reducible first | exact HB.out | apply below_alloc | apply pw_below_drewN | apply below_drew1) | exact HB.out)))); have n2_ := Aside0.mk (below_step (by repeat (first | (with_reducible first | exact HB.out | apply below_alloc | apply pw_below_drewN | apply below_drew1) | exact HB.out)) hb); clear HO214; clear HB; have HO214 := n0_; have HO218 := n1_; have HB := n2_; clear n0_ n1_ n2_; (try clear hb); (try clear hb2); (try clear hk); (try clear hi); (try clear ho0)) | ((with_reducible refine gate_callee (f := 18) rfl ?_); refine goesL_ (some 30) rfl rfl Tryd.func18 (by kernel_rfl) rfl #[.slice Ao12 t212.length co12, .string (a1.extract 0 ((ji4) : Int).toNat)] rfl (by (try simp only [List.map_toArray, List.map_cons, List.map_nil]); first | done | (simp only [hji4]; rfl) | rfl | (simp only [List.length_drop, List.length_take]; rfl)) ?_; (with_reducible refine (racewayref26_Numbered.calls k _ _ t212 (a1.extract 0 ((ji4) : Int).toNat) t219 t220 _ ?side1 ?side2 A8.out).mono ?_); (case side1 => repeat (first | exact (Kd.R_reads' HO214.out).2.2 | (with_reducible refine Kd.C_alloc ?_ _) | (with_reducible refine Kd.C_drewN ?_ _) | (with_reducible refine Kd.C_drew ?_))); (case side2 => exact (Kd.R_reads' HO214.out).2.1); rintro e w14 ⟨v221, rfl, ho0, hb⟩; refine ⟨_, rfl, ?_⟩; have n0_ := Aside0.mk (Kd.R_below (by (with_reducible repeat (first | apply Kd.R_alloc | apply Kd.R_drewN | apply Kd.R_drew)); exact HO214.out) hb); have n1_ := Aside0.mk (Kd.R_elder' (by (with_reducible repeat (first | apply Kd.R_alloc | apply Kd.R_drewN | apply Kd.R_drew)); exact HO218.out) (Kd.R_base ho0) hb); have n2_ := Aside0.mk (Kd.R_lower (Kd.R_new' ho0 (Kd.R_lt (by (with_reducible repeat (first | apply Kd.R_alloc | apply Kd.R_drewN | apply Kd.R_drew)); exact HO218.out))) (below_size (by repeat (first | (with_reducible first | exact HB.out | apply below_alloc | apply pw_below_drewN | apply below_drew1) | exact HB.out)))); have n3_ := Aside0.mk (below_step (by repeat (first | (with_reducible first | exact HB.out | apply below_alloc | apply pw_below_drewN | apply below_drew1) | exact HB.out)) hb); clear HO214; clear HO218; clear HB; have HO214 := n0_; have HO218 := n1_; have HO222 := n2_; have HB := n3_; clear n0_ n1_ n2_ n3_; (try clear hb); (try clear hb2); (try clear hk); (try clear hi); (try clear ho0)) | ((with_reducible refine gate_callee (f := 19) rfl ?_); refine goesL_ (some 36) rfl rfl Tryd.func19 (by kernel_rfl) rfl #[.slice Ao12 t212.length co12, .string (a1.extract 0 ((ji4) : Int).toNat)] rfl (by (try simp only [List.map_toArray, List.map_cons, List.map_nil]); first | done | (simp only [hji4]; rfl) | rfl | (simp only [List.length_drop, List.length_take]; rfl)) ?_; (with_reducible refine (urlform_Get.calls _ _ t212 (a1.extract 0 ((ji4) : Int).toNat) t223 t224 _ ?side1 ?side2 A9.out).mono ?_); (case side1 => repeat (first | exact (Kd.R_reads' HO214.out).2.2 | (with_reducible refine Kd.C_alloc ?_ _) | (with_reducible refine Kd.C_drewN ?_ _) | (with_reducible refine Kd.C_drew ?_))); (case side2 => exact (Kd.R_reads' HO214.out).2.1); rintro e w15 ⟨rfl, hb⟩; refine ⟨_, rfl, ?_⟩; have n0_ := Aside0.mk (Kd.R_below (by (with_reducible repeat (first | apply Kd.R_alloc | apply Kd.R_drewN | apply Kd.R_drew)); exact HO214.out) hb); have n1_ := Aside0.mk (Kd.R_below (by (with_reducible repeat (first | apply Kd.R_alloc | apply Kd.R_drewN | apply Kd.R_drew)); exact HO218.out) hb); have n2_ := Aside0.mk (Kd.R_below (by (with_reducible repeat (first | apply Kd.R_alloc | apply Kd.R_drewN | apply Kd.R_drew)); exact HO222.out) hb); have n3_ := Aside0.mk (below_step (by repeat (first | (with_reducible first | exact HB.out | apply below_alloc | apply pw_below_drewN | apply below_drew1) | exact HB.out)) hb); clear HO214; clear HO218; clear HO222; clear HB; have HO214 := n0_; have HO218 := n1_; have HO222 := n2_; have HB := n3_; clear n0_ n1_ n2_ n3_; (try clear hb); (try clear hb2); (try clear hk); (try clear hi)))
      go_loopg [11, 12, 13] k (fun kq v11 v12 v13 w' => ∃ (x11_1 : ByteArray) (x12_1 : Bool) (x13_1 : Int), v11 = .string x11_1 ∧ v12 = .bool x12_1 ∧ v13 = .int .i64 x13_1 ∧ Aside0 (racewaylaw26_UrlformNumbers.l0 kq t212 (a1.extract 0 ((ji4) : Int).toNat) t215 t216 t219 t220 t223 t224 x11_1 x12_1 x13_1 = some r) ∧ Aside0 (kq ≤ k) ∧ Aside0 (Kd.R k45 45 w' w.heap.size (fun _ => True) (.slice Ao12 t212.length co12) t212) ∧ Aside0 (Kd.R (Kd.int .i64) 3 w' w.heap.size (fun k_ => some k_ ≠ (v221 : Value).ownBlock) v217 t215) ∧ Aside0 (Kd.R (Kd.int .i64) 3 w' w.heap.size (fun k_ => some k_ ≠ (v217 : Value).ownBlock) v221 t219) ∧ Aside0 (Below w.heap.size w w'))
      case atStart => exact ⟨((⟨#[]⟩ : ByteArray)), (false), (wrap64 ((t212.length : Int) - 1)), (by first | rfl | (simp; done) | (simp [*]; done)), (by first | rfl | (simp; done) | (simp [*]; done)), (by first | rfl | (simp; done) | (simp [*]; done)), H', ⟨Nat.le_refl _⟩, ⟨by (with_reducible repeat (first | apply Kd.R_alloc | apply Kd.R_drewN | apply Kd.R_drew)); exact HO214.out⟩, ⟨by (with_reducible repeat (first | apply Kd.R_alloc | apply Kd.R_drewN | apply Kd.R_drew)); exact Kd.R_mono HO218.out (fun _ hk => hk.2)⟩, ⟨by (with_reducible repeat (first | apply Kd.R_alloc | apply Kd.R_drewN | apply Kd.R_drew)); exact Kd.R_mono HO222.out (fun _ hk => hk.2)⟩, ⟨by repeat (first | (with_reducible first | exact HB.out | apply below_alloc | apply pw_below_drewN | apply below_drew1) | exact HB.out)⟩⟩
      case round =>
        clear H'
        try clear c1
        try clear p2
        try clear c5
        try clear c5b0
        try clear c5b1
        try clear c6
        try clear c6b0
        try clear c6b1
        try clear p6
        obtain ⟨x11_1, x12_1, x13_1, rfl, rfl, rfl, HA, HK1, HO_0, HO_5, HO_7, HB⟩ := hrel
        cases gk with
        | zero => exact absurd HA.out (by simp [racewaylaw26_UrlformNumbers.l0])
        | succ k1 =>
          have H := HA.out
          clear HA
          simp only [racewaylaw26_UrlformNumbers.l0] at H
          by_cases c16 : x13_1 ≥ 0
          · rw [if_pos c16] at H
            have c16b0 : decide (0 ≤ x13_1) = true := decide_eq_true c16
            clear c16
            by_cases c17 : 0 ≤ x13_1
            · rw [if_pos c17] at H
              have c17b0 : decide (0 ≤ x13_1) = true := decide_eq_true c17
              clear c17
              by_cases c18 : x13_1 < (t212.length : Int)
              · rw [if_pos c18] at H
                have c18b0 : decide (x13_1 < (t212.length : Int)) = true := decide_eq_true c18
                clear c18
                by_cases c19 : ((rd_T45 t212 x13_1).f0).toList = (a1.extract 0 ((ji4) : Int).toNat).toList
                · rw [if_pos c19] at H
                  have c19b0 : (((rd_T45 t212 x13_1).f0).toList == (a1.extract 0 ((ji4) : Int).toNat).toList) = true := beq_iff_eq.mpr c19
                  have c19b1 : (((rd_T45 t212 x13_1).f0).toList != (a1.extract 0 ((ji4) : Int).toNat).toList) = false := bne_eq_false_iff_eq.mpr c19
                  clear c19
                  have H' := Aside0.mk H
                  clear H
                  have p225 : 0 ≤ (x13_1 : Int) := of_decide_eq_true (by first | (with_reducible assumption) | assumption)
                  have q225 : x13_1 < (t212.length : Int) := of_decide_eq_true (by first | (with_reducible assumption) | assumption)
                  obtain ⟨ad225, e225, hx225_0, hx225_1⟩ := at_T45 (Kd.R_reads' HO_0.out).2.2 x13_1 p225 q225
                  cases e225
                  replace p225 := eq_true p225
                  replace q225 := eq_true q225
                  have p226 : 0 ≤ (x13_1 : Int) := of_decide_eq_true (by first | (with_reducible assumption) | assumption)
                  have q226 : x13_1 < (t212.length : Int) := of_decide_eq_true (by first | (with_reducible assumption) | assumption)
                  obtain ⟨ad226, e226, hx226_0, hx226_1⟩ := at_T45 (Kd.R_reads' HO_0.out).2.2 x13_1 p226 q226
                  obtain rfl : ad225 = ad226 := (by injection e226)
                  replace p226 := eq_true p226
                  replace q226 := eq_true q226
                  go_wp2
                  go_roundg k1
                  case measure => have := HK1.out; omega
                  case rel => exact ⟨((rd_T45 t212 x13_1).f1), (true), (wrap64 (x13_1 - 1)), (by first | rfl | (simp; done) | (simp [*]; done)), (by first | rfl | (simp; done) | (simp [*]; done)), (by first | rfl | (simp; done) | (simp [*]; done)), H', ⟨by have := HK1.out; omega⟩, ⟨by (with_reducible repeat (first | apply Kd.R_alloc | apply Kd.R_drewN | apply Kd.R_drew)); exact HO_0.out⟩, ⟨by (with_reducible repeat (first | apply Kd.R_alloc | apply Kd.R_drewN | apply Kd.R_drew)); exact HO_5.out⟩, ⟨by (with_reducible repeat (first | apply Kd.R_alloc | apply Kd.R_drewN | apply Kd.R_drew)); exact HO_7.out⟩, ⟨by repeat (first | (with_reducible first | exact HB.out | apply below_alloc | apply pw_below_drewN | apply below_drew1) | exact HB.out)⟩⟩
                · rw [if_neg c19] at H
                  have c19b0 : (((rd_T45 t212 x13_1).f0).toList == (a1.extract 0 ((ji4) : Int).toNat).toList) = false := beq_eq_false_iff_ne.mpr c19
                  have c19b1 : (((rd_T45 t212 x13_1).f0).toList != (a1.extract 0 ((ji4) : Int).toNat).toList) = true := bne_iff_ne.mpr c19
                  have H' := Aside0.mk H
                  clear H
                  have p225 : 0 ≤ (x13_1 : Int) := of_decide_eq_true (by first | (with_reducible assumption) | assumption)
                  have q225 : x13_1 < (t212.length : Int) := of_decide_eq_true (by first | (with_reducible assumption) | assumption)
                  obtain ⟨ad225, e225, hx225_0, hx225_1⟩ := at_T45 (Kd.R_reads' HO_0.out).2.2 x13_1 p225 q225
                  cases e225
                  replace p225 := eq_true p225
                  replace q225 := eq_true q225
                  go_wp2
                  go_roundg k1
                  case measure => have := HK1.out; omega
                  case rel => exact ⟨(x11_1), (x12_1), (wrap64 (x13_1 - 1)), (by first | rfl | (simp; done) | (simp [*]; done)), (by first | rfl | (simp; done) | (simp [*]; done)), (by first | rfl | (simp; done) | (simp [*]; done)), H', ⟨by have := HK1.out; omega⟩, ⟨by (with_reducible repeat (first | apply Kd.R_alloc | apply Kd.R_drewN | apply Kd.R_drew)); exact HO_0.out⟩, ⟨by (with_reducible repeat (first | apply Kd.R_alloc | apply Kd.R_drewN | apply Kd.R_drew)); exact HO_5.out⟩, ⟨by (with_reducible repeat (first | apply Kd.R_alloc | apply Kd.R_drewN | apply Kd.R_drew)); exact HO_7.out⟩, ⟨by repeat (first | (with_reducible first | exact HB.out | apply below_alloc | apply pw_below_drewN | apply below_drew1) | exact HB.out)⟩⟩
              · rw [if_neg c18] at H
                exact absurd H (by simp)
            · rw [if_neg c17] at H
              exact absurd H (by simp)
          · rw [if_neg c16] at H
            have c16b0 : decide (0 ≤ x13_1) = false := decide_eq_false c16
            clear c16
            replace H := Option.bind_eq_some_iff.mp H
            obtain ⟨t227, A200, H⟩ := H
            replace H : ((racewayref26_Under.f k1 t212 (a1.extract 0 ((ji4) : Int).toNat)).bind fun t230 => ((racewayref26_Same.f k1 t227 t230).bind fun t233 => (if t233 = true then ((racewayref01_SameNums.f k1 t215 t219).bind fun t234 => (if t234 = true then (if t216 = t220 then (if t223.toList = x11_1.toList then (if (t224 == x12_1) = true then ((racewaylaw26_works.f k1).bind fun t235 => (some t235)) else (some false)) else (some false)) else (some false)) else (some false))) else (some false)))) = some r := H
            have A20 := Aside0.mk A200
            clear A200
            replace H := Option.bind_eq_some_iff.mp H
            obtain ⟨t230, A210, H⟩ := H
            replace H : ((racewayref26_Same.f k1 t227 t230).bind fun t233 => (if t233 = true then ((racewayref01_SameNums.f k1 t215 t219).bind fun t234 => (if t234 = true then (if t216 = t220 then (if t223.toList = x11_1.toList then (if (t224 == x12_1) = true then ((racewaylaw26_works.f k1).bind fun t235 => (some t235)) else (some false)) else (some false)) else (some false)) else (some false))) else (some false))) = some r := H
            have A21 := Aside0.mk A210
            clear A210
            replace H := Option.bind_eq_some_iff.mp H
            obtain ⟨t233, A220, H⟩ := H
            replace H : (if t233 = true then ((racewayref01_SameNums.f k1 t215 t219).bind fun t234 => (if t234 = true then (if t216 = t220 then (if t223.toList = x11_1.toList then (if (t224 == x12_1) = true then ((racewaylaw26_works.f k1).bind fun t235 => (some t235)) else (some false)) else (some false)) else (some false)) else (some false))) else (some false)) = some r := H
            have A22 := Aside0.mk A220
            clear A220
            by_cases c23 : t233 = true
            · subst c23
              have H1 : ((racewayref01_SameNums.f k1 t215 t219).bind fun t234 => (if t234 = true then (if t216 = t220 then (if t223.toList = x11_1.toList then (if (t224 == x12_1) = true then ((racewaylaw26_works.f k1).bind fun t235 => (some t235)) else (some false)) else (some false)) else (some false)) else (some false))) = some r := by rw [if_pos rfl] at H; exact H
              clear H
              have H := H1
              clear H1
              replace H := Option.bind_eq_some_iff.mp H
              obtain ⟨t234, A240, H⟩ := H
              replace H : (if t234 = true then (if t216 = t220 then (if t223.toList = x11_1.toList then (if (t224 == x12_1) = true then ((racewaylaw26_works.f k1).bind fun t235 => (some t235)) else (some false)) else (some false)) else (some false)) else (some false)) = some r := H
              have A24 := Aside0.mk A240
              clear A240
              by_cases c25 : t234 = true
              · subst c25
                have H1 : (if t216 = t220 then (if t223.toList = x11_1.toList then (if (t224 == x12_1) = true then ((racewaylaw26_works.f k1).bind fun t235 => (some t235)) else (some false)) else (some false)) else (some false)) = some r := by rw [if_pos rfl] at H; exact H
                clear H
                have H := H1
                clear H1
                by_cases c26 : t216 = t220
                · rw [if_pos c26] at H
                  have c26b0 : (t216 == t220) = true := beq_iff_eq.mpr c26
                  have c26b1 : (t216 != t220) = false := bne_eq_false_iff_eq.mpr c26
                  clear c26
                  by_cases c27 : t223.toList = x11_1.toList
                  · rw [if_pos c27] at H
                    have c27b0 : (t223.toList == x11_1.toList) = true := beq_iff_eq.mpr c27
                    have c27b1 : (t223.toList != x11_1.toList) = false := bne_eq_false_iff_eq.mpr c27
                    clear c27
                    by_cases c28 : (t224 == x12_1) = true
                    · rw [if_pos c28] at H
                      have c28b0 : (t224 == x12_1) = true := c28
                      (try (have c28b1 : decide (t224 = x12_1) = true := by simpa using c28))
                      (try (have c28b2 : (t224 == x12_1) = true := by simpa using c28))
                      clear c28
                      replace H := Option.bind_eq_some_iff.mp H
                      obtain ⟨t235, A290, H⟩ := H
                      replace H : (some t235) = some r := H
                      have A29 := Aside0.mk A290
                      clear A290
                      obtain rfl := Option.some.inj H
                      go_wp2_with (first | ((with_reducible refine gate_callee (f := 20) rfl ?_); refine goesL_ (some 60) rfl rfl Tryd.func20 (by kernel_rfl) rfl #[.slice Ao12 t212.length co12, .string (a1.extract 0 ((ji4) : Int).toNat)] rfl (by (try simp only [List.map_toArray, List.map_cons, List.map_nil]); first | done | (simp only [hji4]; rfl) | rfl | (simp only [List.length_drop, List.length_take]; rfl)) ?_; (with_reducible refine (urlform_Under.calls k1 _ _ t212 (a1.extract 0 ((ji4) : Int).toNat) t227 _ ?side1 ?side2 A20.out).mono ?_); (case side1 => repeat (first | exact (Kd.R_reads' HO_0.out).2.2 | (with_reducible refine Kd.C_alloc ?_ _) | (with_reducible refine Kd.C_drewN ?_ _) | (with_reducible refine Kd.C_drew ?_))); (case side2 => exact (Kd.R_reads' HO_0.out).2.1); rintro e w30 ⟨v228, rfl, ho0, hb⟩; refine ⟨_, rfl, ?_⟩; have n0_ := Aside0.mk (Kd.R_elder' (by (with_reducible repeat (first | apply Kd.R_alloc | apply Kd.R_drewN | apply Kd.R_drew)); exact HO_0.out) (Kd.R_base ho0) hb); have n1_ := Aside0.mk (Kd.R_below (by (with_reducible repeat (first | apply Kd.R_alloc | apply Kd.R_drewN | apply Kd.R_drew)); exact HO_5.out) hb); have n2_ := Aside0.mk (Kd.R_below (by (with_reducible repeat (first | apply Kd.R_alloc | apply Kd.R_drewN | apply Kd.R_drew)); exact HO_7.out) hb); have n3_ := Aside0.mk (Kd.R_lower (Kd.R_new' ho0 (Kd.R_lt (by (with_reducible repeat (first | apply Kd.R_alloc | apply Kd.R_drewN | apply Kd.R_drew)); exact HO_0.out))) (below_size (by repeat (first | (with_reducible first | exact HB.out | apply below_alloc | apply pw_below_drewN | apply below_drew1) | exact HB.out)))); have n4_ := Aside0.mk (below_step (by repeat (first | (with_reducible first | exact HB.out | apply below_alloc | apply pw_below_drewN | apply below_drew1) | exact HB.out)) hb); clear HO_0; clear HO_5; clear HO_7; clear HB; have HO_0 := n0_; have HO_5 := n1_; have HO_7 := n2_; have HO229 := n3_; have HB := n4_; clear n0_ n1_ n2_ n3_ n4_; (try clear hb); (try clear hb2); (try clear hk); (try clear hi); (try clear ho0)) | ((with_reducible refine gate_callee (f := 21) rfl ?_); refine goesL_ (some 63) rfl rfl Tryd.func21 (by kernel_rfl) rfl #[.slice Ao12 t212.length co12, .string (a1.extract 0 ((ji4) : Int).toNat)] rfl (by (try simp only [List.map_toArray, List.map_cons, List.map_nil]); first | done | (simp only [hji4]; rfl) | rfl | (simp only [List.length_drop, List.length_take]; rfl)) ?_; (with_reducible refine (racewayref26_Under.calls k1 _ _ t212 (a1.extract 0 ((ji4) : Int).toNat) t230 _ ?side1 ?side2 A21.out).mono ?_); (case side1 => repeat (first | exact (Kd.R_reads' HO_0.out).2.2 | (with_reducible refine Kd.C_alloc ?_ _) | (with_reducible refine Kd.C_drewN ?_ _) | (with_reducible refine Kd.C_drew ?_))); (case side2 => exact (Kd.R_reads' HO_0.out).2.1); rintro e w31 ⟨v231, rfl, ho0, hb⟩; refine ⟨_, rfl, ?_⟩; have n0_ := Aside0.mk (Kd.R_elder' (by (with_reducible repeat (first | apply Kd.R_alloc | apply Kd.R_drewN | apply Kd.R_drew)); exact HO_0.out) (Kd.R_base ho0) hb); have n1_ := Aside0.mk (Kd.R_below (by (with_reducible repeat (first | apply Kd.R_alloc | apply Kd.R_drewN | apply Kd.R_drew)); exact HO_5.out) hb); have n2_ := Aside0.mk (Kd.R_below (by (with_reducible repeat (first | apply Kd.R_alloc | apply Kd.R_drewN | apply Kd.R_drew)); exact HO_7.out) hb); have n3_ := Aside0.mk (Kd.R_elder' (by (with_reducible repeat (first | apply Kd.R_alloc | apply Kd.R_drewN | apply Kd.R_drew)); exact HO229.out) (Kd.R_base ho0) hb); have n4_ := Aside0.mk (Kd.R_lower (Kd.R_new' (Kd.R_new' ho0 (Kd.R_lt (by (with_reducible repeat (first | apply Kd.R_alloc | apply Kd.R_drewN | apply Kd.R_drew)); exact HO_0.out))) (Kd.R_lt (by (with_reducible repeat (first | apply Kd.R_alloc | apply Kd.R_drewN | apply Kd.R_drew)); exact HO229.out))) (below_size (by repeat (first | (with_reducible first | exact HB.out | apply below_alloc | apply pw_below_drewN | apply below_drew1) | exact HB.out)))); have n5_ := Aside0.mk (below_step (by repeat (first | (with_reducible first | exact HB.out | apply below_alloc | apply pw_below_drewN | apply below_drew1) | exact HB.out)) hb); clear HO_0; clear HO_5; clear HO_7; clear HO229; clear HB; have HO_0 := n0_; have HO_5 := n1_; have HO_7 := n2_; have HO229 := n3_; have HO232 := n4_; have HB := n5_; clear n0_ n1_ n2_ n3_ n4_ n5_; (try clear hb); (try clear hb2); (try clear hk); (try clear hi); (try clear ho0); obtain ⟨Ao32, co32, eo32⟩ := Kd.R_slice HO229.out; subst eo32; obtain ⟨Ao33, co33, eo33⟩ := Kd.R_slice HO232.out; subst eo33) | ((with_reducible refine gate_callee (f := 15) rfl ?_); refine goesL_ (some 64) rfl rfl Tryd.func15 (by kernel_rfl) rfl #[.slice Ao32 t227.length co32, .slice Ao33 t230.length co33] rfl (by (try simp only [List.map_toArray, List.map_cons, List.map_nil]); first | done | rfl | (simp only [List.length_drop, List.length_take]; rfl)) ?_; (with_reducible refine (racewayref26_Same.calls k1 _ _ t227 _ _ t230 true _ ?side1 ?side2 ?side3 ?side4 A22.out).mono ?_); (case side1 => repeat (first | exact (Kd.R_reads' HO229.out).2.2 | (with_reducible refine Kd.C_alloc ?_ _) | (with_reducible refine Kd.C_drewN ?_ _) | (with_reducible refine Kd.C_drew ?_))); (case side2 => exact (Kd.R_reads' HO229.out).2.1); (case side3 => repeat (first | exact (Kd.R_reads' HO232.out).2.2 | (with_reducible refine Kd.C_alloc ?_ _) | (with_reducible refine Kd.C_drewN ?_ _) | (with_reducible refine Kd.C_drew ?_))); (case side4 => exact (Kd.R_reads' HO232.out).2.1); rintro e w' ⟨rfl, ⟨nd, rfl⟩⟩; refine ⟨_, rfl, ?_⟩; obtain ⟨Ao34, co34, eo34⟩ := Kd.R_slice HO_5.out; subst eo34; obtain ⟨Ao35, co35, eo35⟩ := Kd.R_slice HO_7.out; subst eo35) | (go_at_call 22; (with_reducible refine (racewayref01_SameNums.calls k1 _ _ t215 _ _ t219 true _ ?side1 ?side2 ?side3 ?side4 A24.out).mono ?_); (case side1 => repeat (first | exact (Kd.R_reads' HO_5.out).2.2 | (with_reducible refine Kd.C_alloc ?_ _) | (with_reducible refine Kd.C_drewN ?_ _) | (with_reducible refine Kd.C_drew ?_))); (case side2 => exact (Kd.R_reads' HO_5.out).2.1); (case side3 => repeat (first | exact (Kd.R_reads' HO_7.out).2.2 | (with_reducible refine Kd.C_alloc ?_ _) | (with_reducible refine Kd.C_drewN ?_ _) | (with_reducible refine Kd.C_drew ?_))); (case side4 => exact (Kd.R_reads' HO_7.out).2.1); rintro e w' ⟨rfl, ⟨nd, rfl⟩⟩) | (go_at_call 13; (with_reducible refine (racewaylaw26_works.calls k1  t235 _ A29.out).mono ?_); rintro e w36 ⟨rfl, hb⟩; have n0_ := Aside0.mk (Kd.R_below (by (with_reducible repeat (first | apply Kd.R_alloc | apply Kd.R_drewN | apply Kd.R_drew)); exact HO_0.out) hb); have n1_ := Aside0.mk (Kd.R_below (by (with_reducible repeat (first | apply Kd.R_alloc | apply Kd.R_drewN | apply Kd.R_drew)); exact HO_5.out) hb); have n2_ := Aside0.mk (Kd.R_below (by (with_reducible repeat (first | apply Kd.R_alloc | apply Kd.R_drewN | apply Kd.R_drew)); exact HO_7.out) hb); have n3_ := Aside0.mk (Kd.R_below (by (with_reducible repeat (first | apply Kd.R_alloc | apply Kd.R_drewN | apply Kd.R_drew)); exact HO229.out) hb); have n4_ := Aside0.mk (Kd.R_below (by (with_reducible repeat (first | apply Kd.R_alloc | apply Kd.R_drewN | apply Kd.R_drew)); exact HO232.out) hb); have n5_ := Aside0.mk (below_step (by repeat (first | (with_reducible first | exact HB.out | apply below_alloc | apply pw_below_drewN | apply below_drew1) | exact HB.out)) hb); clear HO_0; clear HO_5; clear HO_7; clear HO229; clear HO232; clear HB; have HO_0 := n0_; have HO_5 := n1_; have HO_7 := n2_; have HO229 := n3_; have HO232 := n4_; have HB := n5_; clear n0_ n1_ n2_ n3_ n4_ n5_; (try clear hb); (try clear hb2); (try clear hk); (try clear hi)))
                      go_ret
                      exact ⟨by first | rfl | (simp [errW_none, errW_some] <;> rfl) | (simp only [← hji4]; first | rfl | (simp [errW_none, errW_some] <;> rfl)) | (simp [*, errW_none, errW_some] <;> rfl), by repeat (first | (with_reducible first | exact HB.out | apply below_alloc | apply pw_below_drewN | apply below_drew1) | exact HB.out)⟩
                    · rw [if_neg c28] at H
                      have c28b0 : (t224 == x12_1) = false := by simpa using c28
                      (try (have c28b1 : decide (t224 = x12_1) = false := by simpa using c28))
                      (try (have c28b2 : (t224 == x12_1) = false := by simpa using c28))
                      (try (have c28b3 : ¬ (t224 = x12_1) := by simpa using c28))
                      clear c28
                      exact absurd (Option.some.inj H) (by rw [hrt.out]; decide)
                  · rw [if_neg c27] at H
                    have c27b0 : (t223.toList == x11_1.toList) = false := beq_eq_false_iff_ne.mpr c27
                    have c27b1 : (t223.toList != x11_1.toList) = true := bne_iff_ne.mpr c27
                    exact absurd (Option.some.inj H) (by rw [hrt.out]; decide)
                · rw [if_neg c26] at H
                  have c26b0 : (t216 == t220) = false := beq_eq_false_iff_ne.mpr c26
                  have c26b1 : (t216 != t220) = true := bne_iff_ne.mpr c26
                  exact absurd (Option.some.inj H) (by rw [hrt.out]; decide)
              · replace c25 := Bool.eq_false_iff.mpr c25
                subst c25
                have H1 : (some false) = some r := by rw [if_neg (show ¬ (false = true) by decide)] at H; exact H
                clear H
                have H := H1
                clear H1
                exact absurd (Option.some.inj H) (by rw [hrt.out]; decide)
            · replace c23 := Bool.eq_false_iff.mpr c23
              subst c23
              have H1 : (some false) = some r := by rw [if_neg (show ¬ (false = true) by decide)] at H; exact H
              clear H
              have H := H1
              clear H1
              exact absurd (Option.some.inj H) (by rw [hrt.out]; decide)
    · rw [if_neg c6] at H
      exact absurd H (by simp)
  · rw [if_neg c5] at H
    exact absurd H (by simp)
-- LAW racewaylaw26_UrlformNumbers

end Go.Proofs.YtjampnopogdceaaDoor.P
