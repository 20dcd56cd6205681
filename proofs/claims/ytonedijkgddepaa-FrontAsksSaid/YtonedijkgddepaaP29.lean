-- Written by the session's own program (wip/tools/myprint.py), over the kit's printer. Lean checks it.
import Derived.Test.YtonedijkgddepaaGB
namespace Go.Proofs.Ytonedijkgddepaa.P
open Go.RowKit Go.Proofs.YtonedijkgddepaaW.PrintWords Go.Proofs.YtonedijkgddepaaW.PrintLast Go.Proofs.YtonedijkgddepaaW.PrintMore
attribute [local go_sem] max2_int min2_int max_two min_two max_three min_three max_four min_four   -- for this text's walks alone
set_option linter.unusedVariables false
set_option linter.unusedSimpArgs false

/-! ### racewayref09_SameVotes: function 57 -/
def racewayref09_SameVotes.l0 : Nat → List (S129) → List (S129) → Int → Option (Bool)
 | 0, _, _, _ => none
 | k + 1, x0, x1, x5 => if x5 < (x0.length : Int) then (if 0 ≤ x5 then (if x5 < (x1.length : Int) then (if ((rd_T129 x0 x5).f0) = ((rd_T129 x1 x5).f0) then (if ((rd_T129 x0 x5).f1) = ((rd_T129 x1 x5).f1) then (if (strOfNums ((rd_T129 x0 x5).f2)).toList = (strOfNums ((rd_T129 x1 x5).f2)).toList then (racewayref09_SameVotes.l0 k x0 x1 (wrap64 (x5 + 1))) else (some false)) else (some false)) else (some false)) else (none)) else (none)) else (some true)
def racewayref09_SameVotes.f (k : Nat) (l0 : List (S129)) (l1 : List (S129)) : Option (Bool) := if (l0.length : Int) = (l1.length : Int) then (racewayref09_SameVotes.l0 k l0 l1 0) else (some false)
theorem racewayref09_SameVotes.mono_l : ∀ k, (∀ y0 y1 y2, LeO (racewayref09_SameVotes.l0 k y0 y1 y2) (racewayref09_SameVotes.l0 (k + 1) y0 y1 y2))
 | 0 => fun _ _ _ r h => by simp [racewayref09_SameVotes.l0] at h
 | k + 1 => by
  have ih0 := racewayref09_SameVotes.mono_l k
  ·intro y0 y1 y2
   unfold racewayref09_SameVotes.l0
   repeat' first
   | (with_reducible exact ih0 _ _ _)
   | (with_reducible exact LeO.refl _)
   | (with_reducible exact LeO.none _)
   | (with_reducible refine LeO.ite ?_ ?_)
   | (with_reducible refine LeO.bind ?_ (fun _ => ?_))
   | exact ih0 _ _ _
   | exact LeO.none _
   | refine LeO.ite ?_ ?_
   | refine LeO.bind ?_ (fun _ => ?_)
theorem racewayref09_SameVotes.mono : ∀ a0 a1 k, LeO (racewayref09_SameVotes.f k a0 a1) (racewayref09_SameVotes.f (k + 1) a0 a1) := by
 intro a0 a1 k
 have ih0 := racewayref09_SameVotes.mono_l k
 unfold racewayref09_SameVotes.f
 repeat' first
   | (with_reducible exact ih0 _ _ _)
   | (with_reducible exact LeO.refl _)
   | (with_reducible exact LeO.none _)
   | (with_reducible refine LeO.ite ?_ ?_)
   | (with_reducible refine LeO.bind ?_ (fun _ => ?_))
   | exact ih0 _ _ _
   | exact LeO.none _
   | refine LeO.ite ?_ ?_
   | refine LeO.bind ?_ (fun _ => ?_)
set_option maxHeartbeats 8000000 in
set_option maxRecDepth 100000 in
theorem racewayref09_SameVotes.calls (k : Nat) (A0 : Option Addr) (c0 : Nat) (l0 : List (S129)) (A1 : Option Addr) (c1 : Nat) (l1 : List (S129)) (r : Bool) (w : World) (hr0 : Kd.C k129 w A0 l0.length l0) (hc0 : l0.length ≤ c0) (hr1 : Kd.C k129 w A1 l1.length l1) (hc1 : l1.length ≤ c1) (h : racewayref09_SameVotes.f k l0 l1 = some r) :
  Calls Try.prog 57 #[.slice A0 l0.length c0, .slice A1 l1.length c1] w fun e w' => e = .returned (.bool r) ∧ Drawn0 w w' := by
 have HR0 := Aside0.mk hr0
 have HC0 := Aside0.mk hc0
 clear hr0 hc0
 have HR1 := Aside0.mk hr1
 have HC1 := Aside0.mk hc1
 clear hr1 hc1
 have H : (if (l0.length : Int) = (l1.length : Int) then (racewayref09_SameVotes.l0 k l0 l1 0) else (some false)) = some r := h
 clear h
 by_cases c3 : (l0.length : Int) = (l1.length : Int)
 ·rw [if_pos c3] at H
  have c3b0 : ((l0.length : Int) == (l1.length : Int)) = true := beq_iff_eq.mpr c3
  have c3b1 : ((l0.length : Int) != (l1.length : Int)) = false := bne_eq_false_iff_eq.mpr c3
  have c3b2 : (l0.length == l1.length) = true := by first | simpa using c3 | (simp at c3 ⊢; omega)
  clear c3
  have H' := Aside0.mk H
  clear H
  go_enter Try.func57, Try.ntmps57
  go_wp2
  repeat (go_quiet (fail); try go_wp2)
  go_loopg [5] k (fun kq v5 w' => ∃ (x5_1 : Int), v5 = .int .i64 x5_1 ∧ Aside0 (racewayref09_SameVotes.l0 kq l0 l1 x5_1 = some r) ∧ Aside0 (kq ≤ k) ∧ Drawn0 w w')
  case atStart => exact ⟨(0), (by first | rfl | (simp; done) | (simp [*]; done)), H', ⟨Nat.le_refl _⟩, by repeat (first | exact Drawn0.refl _ | apply Drawn0.step)⟩
  case round =>
   clear H'
   try clear c1
   try clear p2
   try clear c3
   try clear c3b0
   try clear c3b1
   try clear c3b2
   obtain ⟨x5_1, rfl, HA, HK1, ⟨m1, rfl⟩⟩ := hrel
   cases gk with
   | zero => exact absurd HA.out (by simp [racewayref09_SameVotes.l0])
   | succ k1 =>
    have H := HA.out
    clear HA
    simp only [racewayref09_SameVotes.l0] at H
    by_cases c4 : x5_1 < (l0.length : Int)
    ·rw [if_pos c4] at H
     have c4b0 : decide (x5_1 < (l0.length : Int)) = true := decide_eq_true c4
     clear c4
     by_cases c5 : 0 ≤ x5_1
     ·rw [if_pos c5] at H
      have c5b0 : decide (0 ≤ x5_1) = true := decide_eq_true c5
      clear c5
      by_cases c6 : x5_1 < (l1.length : Int)
      ·rw [if_pos c6] at H
       have c6b0 : decide (x5_1 < (l1.length : Int)) = true := decide_eq_true c6
       clear c6
       by_cases c7 : ((rd_T129 l0 x5_1).f0) = ((rd_T129 l1 x5_1).f0)
       ·rw [if_pos c7] at H
        have c7b0 : (((rd_T129 l0 x5_1).f0) == ((rd_T129 l1 x5_1).f0)) = true := beq_iff_eq.mpr c7
        have c7b1 : (((rd_T129 l0 x5_1).f0) != ((rd_T129 l1 x5_1).f0)) = false := bne_eq_false_iff_eq.mpr c7
        clear c7
        by_cases c8 : ((rd_T129 l0 x5_1).f1) = ((rd_T129 l1 x5_1).f1)
        ·rw [if_pos c8] at H
         have c8b0 : (((rd_T129 l0 x5_1).f1) == ((rd_T129 l1 x5_1).f1)) = true := beq_iff_eq.mpr c8
         have c8b1 : (((rd_T129 l0 x5_1).f1) != ((rd_T129 l1 x5_1).f1)) = false := bne_eq_false_iff_eq.mpr c8
         clear c8
         by_cases c9 : (strOfNums ((rd_T129 l0 x5_1).f2)).toList = (strOfNums ((rd_T129 l1 x5_1).f2)).toList
         ·rw [if_pos c9] at H
          have c9b0 : ((strOfNums ((rd_T129 l0 x5_1).f2)).toList == (strOfNums ((rd_T129 l1 x5_1).f2)).toList) = true := beq_iff_eq.mpr c9
          have c9b1 : ((strOfNums ((rd_T129 l0 x5_1).f2)).toList != (strOfNums ((rd_T129 l1 x5_1).f2)).toList) = false := bne_eq_false_iff_eq.mpr c9
          clear c9
          have H' := Aside0.mk H
          clear H
          have p349 : 0 ≤ (x5_1 : Int) := of_decide_eq_true (by first | (with_reducible assumption) | assumption)
          have q349 : x5_1 < (l0.length : Int) := of_decide_eq_true (by first | (with_reducible assumption) | assumption)
          obtain ⟨ad349, A349_2, c349_2, e349, hx349_0, hx349_1, hx349_2, hl349_2, hi349_2⟩ := at_T129 HR0.out x5_1 p349 q349
          cases e349
          have HR349_2 := Aside0.mk hi349_2
          have HC349_2 := Aside0.mk hl349_2
          clear hi349_2 hl349_2
          replace p349 := eq_true p349
          replace q349 := eq_true q349
          have p350 : 0 ≤ (x5_1 : Int) := of_decide_eq_true (by first | (with_reducible assumption) | assumption)
          have q350 : x5_1 < (l1.length : Int) := of_decide_eq_true (by first | (with_reducible assumption) | assumption)
          obtain ⟨ad350, A350_2, c350_2, e350, hx350_0, hx350_1, hx350_2, hl350_2, hi350_2⟩ := at_T129 HR1.out x5_1 p350 q350
          cases e350
          have HR350_2 := Aside0.mk hi350_2
          have HC350_2 := Aside0.mk hl350_2
          clear hi350_2 hl350_2
          replace p350 := eq_true p350
          replace q350 := eq_true q350
          have p351 : 0 ≤ (x5_1 : Int) := of_decide_eq_true (by first | (with_reducible assumption) | assumption)
          have q351 : x5_1 < (l0.length : Int) := of_decide_eq_true (by first | (with_reducible assumption) | assumption)
          obtain ⟨ad351, A351_2, c351_2, e351, hx351_0, hx351_1, hx351_2, hl351_2, hi351_2⟩ := at_T129 HR0.out x5_1 p351 q351
          obtain rfl : ad349 = ad351 := (by injection e351)
          have HR351_2 := Aside0.mk hi351_2
          have HC351_2 := Aside0.mk hl351_2
          clear hi351_2 hl351_2
          replace p351 := eq_true p351
          replace q351 := eq_true q351
          have ea_ := Option.some.inj (hx349_2.symm.trans hx351_2)
          injection ea_ with ea_ en_ ec_
          subst ea_
          subst ec_
          clear en_
          have p352 : 0 ≤ (x5_1 : Int) := of_decide_eq_true (by first | (with_reducible assumption) | assumption)
          have q352 : x5_1 < (l1.length : Int) := of_decide_eq_true (by first | (with_reducible assumption) | assumption)
          obtain ⟨ad352, A352_2, c352_2, e352, hx352_0, hx352_1, hx352_2, hl352_2, hi352_2⟩ := at_T129 HR1.out x5_1 p352 q352
          obtain rfl : ad350 = ad352 := (by injection e352)
          have HR352_2 := Aside0.mk hi352_2
          have HC352_2 := Aside0.mk hl352_2
          clear hi352_2 hl352_2
          replace p352 := eq_true p352
          replace q352 := eq_true q352
          have ea_ := Option.some.inj (hx350_2.symm.trans hx352_2)
          injection ea_ with ea_ en_ ec_
          subst ea_
          subst ec_
          clear en_
          have p353 : 0 ≤ (x5_1 : Int) := of_decide_eq_true (by first | (with_reducible assumption) | assumption)
          have q353 : x5_1 < (l0.length : Int) := of_decide_eq_true (by first | (with_reducible assumption) | assumption)
          obtain ⟨ad353, A353_2, c353_2, e353, hx353_0, hx353_1, hx353_2, hl353_2, hi353_2⟩ := at_T129 HR0.out x5_1 p353 q353
          obtain rfl : ad349 = ad353 := (by injection e353)
          have HR353_2 := Aside0.mk hi353_2
          have HC353_2 := Aside0.mk hl353_2
          clear hi353_2 hl353_2
          replace p353 := eq_true p353
          replace q353 := eq_true q353
          have ea_ := Option.some.inj (hx349_2.symm.trans hx353_2)
          injection ea_ with ea_ en_ ec_
          subst ea_
          subst ec_
          clear en_
          have hcv10 := Kd.C_string (P := Try.prog) (A := A349_2) (c := c349_2) Try.underlying28 Try.underlying5 Try.underlying9 HR353_2.out
          have hcv10m := fun m_ => Kd.C_string (P := Try.prog) (A := A349_2) (c := c349_2) Try.underlying28 Try.underlying5 Try.underlying9 (Kd.C_drewN HR353_2.out m_)
          have p354 : 0 ≤ (x5_1 : Int) := of_decide_eq_true (by first | (with_reducible assumption) | assumption)
          have q354 : x5_1 < (l1.length : Int) := of_decide_eq_true (by first | (with_reducible assumption) | assumption)
          obtain ⟨ad354, A354_2, c354_2, e354, hx354_0, hx354_1, hx354_2, hl354_2, hi354_2⟩ := at_T129 HR1.out x5_1 p354 q354
          obtain rfl : ad350 = ad354 := (by injection e354)
          have HR354_2 := Aside0.mk hi354_2
          have HC354_2 := Aside0.mk hl354_2
          clear hi354_2 hl354_2
          replace p354 := eq_true p354
          replace q354 := eq_true q354
          have ea_ := Option.some.inj (hx350_2.symm.trans hx354_2)
          injection ea_ with ea_ en_ ec_
          subst ea_
          subst ec_
          clear en_
          have hcv11 := Kd.C_string (P := Try.prog) (A := A350_2) (c := c350_2) Try.underlying28 Try.underlying5 Try.underlying9 HR354_2.out
          have hcv11m := fun m_ => Kd.C_string (P := Try.prog) (A := A350_2) (c := c350_2) Try.underlying28 Try.underlying5 Try.underlying9 (Kd.C_drewN HR354_2.out m_)
          go_wp2
          repeat (go_quiet (fail); try go_wp2)
          go_roundg k1
          case measure => have := HK1.out; omega
          case rel => exact ⟨(wrap64 (x5_1 + 1)), (by first | rfl | (simp; done) | (simp [*]; done)), H', ⟨by have := HK1.out; omega⟩, by repeat (first | exact Drawn0.refl _ | apply Drawn0.step)⟩
         ·rw [if_neg c9] at H
          have c9b0 : ((strOfNums ((rd_T129 l0 x5_1).f2)).toList == (strOfNums ((rd_T129 l1 x5_1).f2)).toList) = false := beq_eq_false_iff_ne.mpr c9
          have c9b1 : ((strOfNums ((rd_T129 l0 x5_1).f2)).toList != (strOfNums ((rd_T129 l1 x5_1).f2)).toList) = true := bne_iff_ne.mpr c9
          obtain rfl := Option.some.inj H
          have p349 : 0 ≤ (x5_1 : Int) := of_decide_eq_true (by first | (with_reducible assumption) | assumption)
          have q349 : x5_1 < (l0.length : Int) := of_decide_eq_true (by first | (with_reducible assumption) | assumption)
          obtain ⟨ad349, A349_2, c349_2, e349, hx349_0, hx349_1, hx349_2, hl349_2, hi349_2⟩ := at_T129 HR0.out x5_1 p349 q349
          cases e349
          have HR349_2 := Aside0.mk hi349_2
          have HC349_2 := Aside0.mk hl349_2
          clear hi349_2 hl349_2
          replace p349 := eq_true p349
          replace q349 := eq_true q349
          have p350 : 0 ≤ (x5_1 : Int) := of_decide_eq_true (by first | (with_reducible assumption) | assumption)
          have q350 : x5_1 < (l1.length : Int) := of_decide_eq_true (by first | (with_reducible assumption) | assumption)
          obtain ⟨ad350, A350_2, c350_2, e350, hx350_0, hx350_1, hx350_2, hl350_2, hi350_2⟩ := at_T129 HR1.out x5_1 p350 q350
          cases e350
          have HR350_2 := Aside0.mk hi350_2
          have HC350_2 := Aside0.mk hl350_2
          clear hi350_2 hl350_2
          replace p350 := eq_true p350
          replace q350 := eq_true q350
          have p351 : 0 ≤ (x5_1 : Int) := of_decide_eq_true (by first | (with_reducible assumption) | assumption)
          have q351 : x5_1 < (l0.length : Int) := of_decide_eq_true (by first | (with_reducible assumption) | assumption)
          obtain ⟨ad351, A351_2, c351_2, e351, hx351_0, hx351_1, hx351_2, hl351_2, hi351_2⟩ := at_T129 HR0.out x5_1 p351 q351
          obtain rfl : ad349 = ad351 := (by injection e351)
          have HR351_2 := Aside0.mk hi351_2
          have HC351_2 := Aside0.mk hl351_2
          clear hi351_2 hl351_2
          replace p351 := eq_true p351
          replace q351 := eq_true q351
          have ea_ := Option.some.inj (hx349_2.symm.trans hx351_2)
          injection ea_ with ea_ en_ ec_
          subst ea_
          subst ec_
          clear en_
          have p352 : 0 ≤ (x5_1 : Int) := of_decide_eq_true (by first | (with_reducible assumption) | assumption)
          have q352 : x5_1 < (l1.length : Int) := of_decide_eq_true (by first | (with_reducible assumption) | assumption)
          obtain ⟨ad352, A352_2, c352_2, e352, hx352_0, hx352_1, hx352_2, hl352_2, hi352_2⟩ := at_T129 HR1.out x5_1 p352 q352
          obtain rfl : ad350 = ad352 := (by injection e352)
          have HR352_2 := Aside0.mk hi352_2
          have HC352_2 := Aside0.mk hl352_2
          clear hi352_2 hl352_2
          replace p352 := eq_true p352
          replace q352 := eq_true q352
          have ea_ := Option.some.inj (hx350_2.symm.trans hx352_2)
          injection ea_ with ea_ en_ ec_
          subst ea_
          subst ec_
          clear en_
          have p353 : 0 ≤ (x5_1 : Int) := of_decide_eq_true (by first | (with_reducible assumption) | assumption)
          have q353 : x5_1 < (l0.length : Int) := of_decide_eq_true (by first | (with_reducible assumption) | assumption)
          obtain ⟨ad353, A353_2, c353_2, e353, hx353_0, hx353_1, hx353_2, hl353_2, hi353_2⟩ := at_T129 HR0.out x5_1 p353 q353
          obtain rfl : ad349 = ad353 := (by injection e353)
          have HR353_2 := Aside0.mk hi353_2
          have HC353_2 := Aside0.mk hl353_2
          clear hi353_2 hl353_2
          replace p353 := eq_true p353
          replace q353 := eq_true q353
          have ea_ := Option.some.inj (hx349_2.symm.trans hx353_2)
          injection ea_ with ea_ en_ ec_
          subst ea_
          subst ec_
          clear en_
          have hcv12 := Kd.C_string (P := Try.prog) (A := A349_2) (c := c349_2) Try.underlying28 Try.underlying5 Try.underlying9 HR353_2.out
          have hcv12m := fun m_ => Kd.C_string (P := Try.prog) (A := A349_2) (c := c349_2) Try.underlying28 Try.underlying5 Try.underlying9 (Kd.C_drewN HR353_2.out m_)
          have p354 : 0 ≤ (x5_1 : Int) := of_decide_eq_true (by first | (with_reducible assumption) | assumption)
          have q354 : x5_1 < (l1.length : Int) := of_decide_eq_true (by first | (with_reducible assumption) | assumption)
          obtain ⟨ad354, A354_2, c354_2, e354, hx354_0, hx354_1, hx354_2, hl354_2, hi354_2⟩ := at_T129 HR1.out x5_1 p354 q354
          obtain rfl : ad350 = ad354 := (by injection e354)
          have HR354_2 := Aside0.mk hi354_2
          have HC354_2 := Aside0.mk hl354_2
          clear hi354_2 hl354_2
          replace p354 := eq_true p354
          replace q354 := eq_true q354
          have ea_ := Option.some.inj (hx350_2.symm.trans hx354_2)
          injection ea_ with ea_ en_ ec_
          subst ea_
          subst ec_
          clear en_
          have hcv13 := Kd.C_string (P := Try.prog) (A := A350_2) (c := c350_2) Try.underlying28 Try.underlying5 Try.underlying9 HR354_2.out
          have hcv13m := fun m_ => Kd.C_string (P := Try.prog) (A := A350_2) (c := c350_2) Try.underlying28 Try.underlying5 Try.underlying9 (Kd.C_drewN HR354_2.out m_)
          go_wp2
          repeat (go_quiet (fail); try go_wp2)
          go_ret
          exact ⟨by first | rfl | (simp; done) | (simp [*]; done), by repeat (first | exact Drawn0.refl _ | apply Drawn0.step)⟩
        ·rw [if_neg c8] at H
         have c8b0 : (((rd_T129 l0 x5_1).f1) == ((rd_T129 l1 x5_1).f1)) = false := beq_eq_false_iff_ne.mpr c8
         have c8b1 : (((rd_T129 l0 x5_1).f1) != ((rd_T129 l1 x5_1).f1)) = true := bne_iff_ne.mpr c8
         obtain rfl := Option.some.inj H
         have p349 : 0 ≤ (x5_1 : Int) := of_decide_eq_true (by first | (with_reducible assumption) | assumption)
         have q349 : x5_1 < (l0.length : Int) := of_decide_eq_true (by first | (with_reducible assumption) | assumption)
         obtain ⟨ad349, A349_2, c349_2, e349, hx349_0, hx349_1, hx349_2, hl349_2, hi349_2⟩ := at_T129 HR0.out x5_1 p349 q349
         cases e349
         have HR349_2 := Aside0.mk hi349_2
         have HC349_2 := Aside0.mk hl349_2
         clear hi349_2 hl349_2
         replace p349 := eq_true p349
         replace q349 := eq_true q349
         have p350 : 0 ≤ (x5_1 : Int) := of_decide_eq_true (by first | (with_reducible assumption) | assumption)
         have q350 : x5_1 < (l1.length : Int) := of_decide_eq_true (by first | (with_reducible assumption) | assumption)
         obtain ⟨ad350, A350_2, c350_2, e350, hx350_0, hx350_1, hx350_2, hl350_2, hi350_2⟩ := at_T129 HR1.out x5_1 p350 q350
         cases e350
         have HR350_2 := Aside0.mk hi350_2
         have HC350_2 := Aside0.mk hl350_2
         clear hi350_2 hl350_2
         replace p350 := eq_true p350
         replace q350 := eq_true q350
         have p351 : 0 ≤ (x5_1 : Int) := of_decide_eq_true (by first | (with_reducible assumption) | assumption)
         have q351 : x5_1 < (l0.length : Int) := of_decide_eq_true (by first | (with_reducible assumption) | assumption)
         obtain ⟨ad351, A351_2, c351_2, e351, hx351_0, hx351_1, hx351_2, hl351_2, hi351_2⟩ := at_T129 HR0.out x5_1 p351 q351
         obtain rfl : ad349 = ad351 := (by injection e351)
         have HR351_2 := Aside0.mk hi351_2
         have HC351_2 := Aside0.mk hl351_2
         clear hi351_2 hl351_2
         replace p351 := eq_true p351
         replace q351 := eq_true q351
         have ea_ := Option.some.inj (hx349_2.symm.trans hx351_2)
         injection ea_ with ea_ en_ ec_
         subst ea_
         subst ec_
         clear en_
         have p352 : 0 ≤ (x5_1 : Int) := of_decide_eq_true (by first | (with_reducible assumption) | assumption)
         have q352 : x5_1 < (l1.length : Int) := of_decide_eq_true (by first | (with_reducible assumption) | assumption)
         obtain ⟨ad352, A352_2, c352_2, e352, hx352_0, hx352_1, hx352_2, hl352_2, hi352_2⟩ := at_T129 HR1.out x5_1 p352 q352
         obtain rfl : ad350 = ad352 := (by injection e352)
         have HR352_2 := Aside0.mk hi352_2
         have HC352_2 := Aside0.mk hl352_2
         clear hi352_2 hl352_2
         replace p352 := eq_true p352
         replace q352 := eq_true q352
         have ea_ := Option.some.inj (hx350_2.symm.trans hx352_2)
         injection ea_ with ea_ en_ ec_
         subst ea_
         subst ec_
         clear en_
         go_wp2
         repeat (go_quiet (fail); try go_wp2)
         go_ret
         exact ⟨by first | rfl | (simp; done) | (simp [*]; done), by repeat (first | exact Drawn0.refl _ | apply Drawn0.step)⟩
       ·rw [if_neg c7] at H
        have c7b0 : (((rd_T129 l0 x5_1).f0) == ((rd_T129 l1 x5_1).f0)) = false := beq_eq_false_iff_ne.mpr c7
        have c7b1 : (((rd_T129 l0 x5_1).f0) != ((rd_T129 l1 x5_1).f0)) = true := bne_iff_ne.mpr c7
        obtain rfl := Option.some.inj H
        have p349 : 0 ≤ (x5_1 : Int) := of_decide_eq_true (by first | (with_reducible assumption) | assumption)
        have q349 : x5_1 < (l0.length : Int) := of_decide_eq_true (by first | (with_reducible assumption) | assumption)
        obtain ⟨ad349, A349_2, c349_2, e349, hx349_0, hx349_1, hx349_2, hl349_2, hi349_2⟩ := at_T129 HR0.out x5_1 p349 q349
        cases e349
        have HR349_2 := Aside0.mk hi349_2
        have HC349_2 := Aside0.mk hl349_2
        clear hi349_2 hl349_2
        replace p349 := eq_true p349
        replace q349 := eq_true q349
        have p350 : 0 ≤ (x5_1 : Int) := of_decide_eq_true (by first | (with_reducible assumption) | assumption)
        have q350 : x5_1 < (l1.length : Int) := of_decide_eq_true (by first | (with_reducible assumption) | assumption)
        obtain ⟨ad350, A350_2, c350_2, e350, hx350_0, hx350_1, hx350_2, hl350_2, hi350_2⟩ := at_T129 HR1.out x5_1 p350 q350
        cases e350
        have HR350_2 := Aside0.mk hi350_2
        have HC350_2 := Aside0.mk hl350_2
        clear hi350_2 hl350_2
        replace p350 := eq_true p350
        replace q350 := eq_true q350
        go_wp2
        repeat (go_quiet (fail); try go_wp2)
        go_ret
        exact ⟨by first | rfl | (simp; done) | (simp [*]; done), by repeat (first | exact Drawn0.refl _ | apply Drawn0.step)⟩
      ·rw [if_neg c6] at H
       exact absurd H (by simp)
     ·rw [if_neg c5] at H
      exact absurd H (by simp)
    ·rw [if_neg c4] at H
     have c4b0 : decide (x5_1 < (l0.length : Int)) = false := decide_eq_false c4
     clear c4
     obtain rfl := Option.some.inj H
     go_wp2
     repeat (go_quiet (fail); try go_wp2)
     go_ret
     exact ⟨by first | rfl | (simp; done) | (simp [*]; done), by repeat (first | exact Drawn0.refl _ | apply Drawn0.step)⟩
 ·rw [if_neg c3] at H
  have c3b0 : ((l0.length : Int) == (l1.length : Int)) = false := beq_eq_false_iff_ne.mpr c3
  have c3b1 : ((l0.length : Int) != (l1.length : Int)) = true := bne_iff_ne.mpr c3
  have c3b2 : (l0.length == l1.length) = false := by first | simpa using c3 | (simp at c3 ⊢; omega)
  obtain rfl := Option.some.inj H
  go_enter Try.func57, Try.ntmps57
  go_wp2
  repeat (go_quiet (fail); try go_wp2)
  go_ret
  exact ⟨by first | rfl | (simp; done) | (simp [*]; done), by repeat (first | exact Drawn0.refl _ | apply Drawn0.step)⟩

end Go.Proofs.Ytonedijkgddepaa.P
