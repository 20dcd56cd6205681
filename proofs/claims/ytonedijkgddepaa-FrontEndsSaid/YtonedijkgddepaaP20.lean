-- Written by the session's own program (wip/tools/myprint.py), over the kit's printer. Lean checks it.
import Derived.Test.YtonedijkgddepaaSq
import Derived.Test.YtonedijkgddepaaP0
import Derived.Test.YtonedijkgddepaaP16
import Derived.Test.YtonedijkgddepaaP19
namespace Go.Proofs.Ytonedijkgddepaa.P
open Go.Sq
open Go.RowKit Go.Proofs.YtonedijkgddepaaW.PrintWords Go.Proofs.YtonedijkgddepaaW.PrintLast Go.Proofs.YtonedijkgddepaaW.PrintMore
attribute [local go_sem] max2_int min2_int max_two min_two max_three min_three max_four min_four   -- for this text's walks alone
set_option linter.unusedVariables false
set_option linter.unusedSimpArgs false

/-! ### chart_May: function 56 -/
mutual
def chart_May.j0 : Nat → Bool → Int → List (S108) → Option (Bool)
 | 0, _, _, _ => none
 | k + 1, x13, x269000, x269001 => if x13 = true then (some false) else (chart_May.l0 k ([] : List (S35)) x269001 (x269001.length : Int) 0 x269000 x269001)
def chart_May.l0 : Nat → List (S35) → List (S108) → Int → Int → Int → List (S108) → Option (Bool)
 | 0, _, _, _, _, _, _ => none
 | k + 1, x3, x15, x16, x17, x269000, x269001 => if x17 < x16 then (if 0 ≤ x17 then (if x17 < (x15.length : Int) then ((chart_shard.f ((rd_T108 x15 x17).f1)).bind fun t271 => (if t271 = true then (if x17 > 0 then (if 0 ≤ (wrap64 (x17 - 1)) then (if (wrap64 (x17 - 1)) < (x269001.length : Int) then (if ((rd_T108 x15 x17).f0.f0) < ((rd_T108 x269001 (wrap64 (x17 - 1))).f0.f1) then (some false) else (if ((rd_T108 x15 x17).f1) = ((rd_T108 x269001 (wrap64 (x17 - 1))).f1) then (some false) else (if x3.length < 8796093022208 then (chart_May.l0 k (x3 ++ [(⟨(rd_T108 x15 x17).f0.f0, (rd_T108 x15 x17).f0.f1⟩ : S35)]) x15 x16 (wrap64 (x17 + 1)) x269000 x269001) else (none)))) else (none)) else (none)) else (if x3.length < 8796093022208 then (chart_May.l0 k (x3 ++ [(⟨(rd_T108 x15 x17).f0.f0, (rd_T108 x15 x17).f0.f1⟩ : S35)]) x15 x16 (wrap64 (x17 + 1)) x269000 x269001) else (none))) else (some false))) else (none)) else (none)) else ((place_Covers.f k x3).bind fun t280 => (some t280))
end
def chart_May.f (k : Nat) (a0_0 : Int) (l0_1 : List (S108)) : Option (Bool) := if a0_0 < 1 then (chart_May.j0 k true a0_0 l0_1) else (chart_May.j0 k (decide (a0_0 > 1099511627776)) a0_0 l0_1)
theorem chart_May.mono_l : ∀ k, (∀ y0 y1 y2, LeO (chart_May.j0 k y0 y1 y2) (chart_May.j0 (k + 1) y0 y1 y2)) ∧ (∀ y0 y1 y2 y3 y4 y5, LeO (chart_May.l0 k y0 y1 y2 y3 y4 y5) (chart_May.l0 (k + 1) y0 y1 y2 y3 y4 y5))
 | 0 => ⟨fun _ _ _ r h => by simp [chart_May.j0] at h, fun _ _ _ _ _ _ r h => by simp [chart_May.l0] at h⟩
 | k + 1 => by
  obtain ⟨ih0, ih1⟩ := chart_May.mono_l k
  refine ⟨?_, ?_⟩
  ·intro y0 y1 y2
   unfold chart_May.j0
   repeat' first
   | (with_reducible exact ih0 _ _ _)
   | (with_reducible exact ih1 _ _ _ _ _ _)
   | (with_reducible exact place_Covers.mono _ _)
   | (with_reducible exact LeO.refl _)
   | (with_reducible exact LeO.none _)
   | (with_reducible refine LeO.ite ?_ ?_)
   | (with_reducible refine LeO.bind ?_ (fun _ => ?_))
   | exact ih0 _ _ _
   | exact ih1 _ _ _ _ _ _
   | exact place_Covers.mono _ _
   | exact LeO.none _
   | refine LeO.ite ?_ ?_
   | refine LeO.bind ?_ (fun _ => ?_)
  ·intro y0 y1 y2 y3 y4 y5
   unfold chart_May.l0
   repeat' first
   | (with_reducible exact ih0 _ _ _)
   | (with_reducible exact ih1 _ _ _ _ _ _)
   | (with_reducible exact place_Covers.mono _ _)
   | (with_reducible exact LeO.refl _)
   | (with_reducible exact LeO.none _)
   | (with_reducible refine LeO.ite ?_ ?_)
   | (with_reducible refine LeO.bind ?_ (fun _ => ?_))
   | exact ih0 _ _ _
   | exact ih1 _ _ _ _ _ _
   | exact place_Covers.mono _ _
   | exact LeO.none _
   | refine LeO.ite ?_ ?_
   | refine LeO.bind ?_ (fun _ => ?_)
theorem chart_May.mono : ∀ a0 a1 k, LeO (chart_May.f k a0 a1) (chart_May.f (k + 1) a0 a1) := by
 intro a0 a1 k
 obtain ⟨ih0, ih1⟩ := chart_May.mono_l k
 unfold chart_May.f
 repeat' first
   | (with_reducible exact ih0 _ _ _)
   | (with_reducible exact ih1 _ _ _ _ _ _)
   | (with_reducible exact place_Covers.mono _ _)
   | (with_reducible exact LeO.refl _)
   | (with_reducible exact LeO.none _)
   | (with_reducible refine LeO.ite ?_ ?_)
   | (with_reducible refine LeO.bind ?_ (fun _ => ?_))
   | exact ih0 _ _ _
   | exact ih1 _ _ _ _ _ _
   | exact place_Covers.mono _ _
   | exact LeO.none _
   | refine LeO.ite ?_ ?_
   | refine LeO.bind ?_ (fun _ => ?_)
def chart_May.T7 : Bool × List (List Nat × List Nat) := (true, [([], []), ([0], [0]), ([1], [1]), ([2], [2]), ([3, 2], [3]), ([4], [4]), ([5, 4], [4, 5]), ([6, 4, 4], [4, 6]), ([7], [7]), ([8, 7], [7, 8]), ([9, 7], [7, 9]), ([7], [7]), ([11, 7], [7, 11]), ([7], [7]), ([13, 7], [7, 13]), ([12, 14, 7], [7, 12, 14]), ([15, 7], [7, 15]), ([16, 7], [7, 16]), ([17, 7], [7, 17]), ([10, 18, 7], [7, 10, 18]), ([19, 7, 7], [7, 19]), ([20], [20]), ([21, 20], [20, 21]), ([20], [20]), ([23, 20], [20, 23]), ([20], [20]), ([25, 20], [20, 25]), ([24, 26, 20], [20, 24, 26]), ([27, 20], [20, 27]), ([28, 20], [20, 28]), ([22, 29, 20], [20, 22, 29]), ([20, 30, 7], [7, 20, 30]), ([7, 31, 4], [4, 7, 31]), ([4, 32], [4, 32])])
def chart_May.B7 : List Nat := [0, 1, 3, 7, 15, 31, 63, 127, 255, 511, 1023, 255, 2303, 255, 8447, 30975, 63743, 129279, 260351, 524287, 1048575, 2097151, 4194303, 2097151, 10485759, 2097151, 35651583, 127926271, 262143999, 530579455, 1073741823, 2147483647, 4294967295, 8589934591]
theorem chart_May.tab7 : rtab .any (opsOf Try.f56 7) = chart_May.T7 := by kernel_rfl
theorem chart_May.bits7 : waitsOk chart_May.T7.2 chart_May.B7 = true := by kernel_rfl
set_option maxHeartbeats 8000000 in
set_option maxRecDepth 100000 in
theorem chart_May.calls (k : Nat) (a0_0 : Int) (A0_1 : Option Addr) (c0_1 : Nat) (l0_1 : List (S108)) (r : Bool) (w : World) (hr0_1 : Kd.C k108 w A0_1 l0_1.length l0_1) (hc0_1 : l0_1.length ≤ c0_1) (h : chart_May.f k a0_0 l0_1 = some r) :
  Calls Try.prog 56 #[.agg #[.int .i64 a0_0, .slice A0_1 l0_1.length c0_1]] w fun e w' => e = .returned (.bool r) ∧ Below w.heap.size w w' := by
 have hu45 := Try.underlying45
 have hu108 := Try.underlying108
 have hu35 := Try.underlying35
 have HR0_1 := Aside0.mk hr0_1
 have HC0_1 := Aside0.mk hc0_1
 clear hr0_1 hc0_1
 have HB := Aside0.mk (Below.refl w.heap.size w)
 have H : (if a0_0 < 1 then (chart_May.j0 k true a0_0 l0_1) else (chart_May.j0 k (decide (a0_0 > 1099511627776)) a0_0 l0_1)) = some r := h
 clear h
 have HC2 := Aside0.mk H
 clear H
 go_enter Try.func56, Try.ntmps56
 go_upto_region 1 with (first | ((with_reducible refine gate_dst (N := 1) rfl ?_); refine box_event ?hg (N := 1) ?hd (cs := #[.int .i64 a0_0, .slice A0_1 l0_1.length c0_1]) (t := 45) ?hr ?_; (case hd => rfl); (case hg => rfl); (case hr => first | (go_simp; done) | (go_simp; rfl)); intro gb268 hg w3 hbox hb; have n0_ := Aside0.mk (below_step (by repeat (first | (with_reducible first | exact HB.out | apply below_alloc | apply pw_below_drewN | apply below_drew1) | exact HB.out)) hb); have n1_ := Aside0.mk (hbox); have n2_ := Aside0.mk ((by rw [hg]; exact (below_size (by repeat (first | (with_reducible first | exact HB.out | apply below_alloc | apply pw_below_drewN | apply below_drew1) | exact HB.out))) : w.heap.size ≤ gb268)); have n3_ := Aside0.mk ((by rw [hg]; exact (below_size (by repeat (first | (with_reducible first | exact HB.out | apply below_alloc | apply pw_below_drewN | apply below_drew1) | exact HB.out))) : w.heap.size ≤ gb268)); clear HB; have HB := n0_; have BK268 := n1_; have GW268 := n2_; have GE268 := n3_; clear n0_ n1_ n2_ n3_; clear hb hbox hg))
 (try simp only [Act.put, List.setIfInBounds_toArray, List.set_cons_zero, List.set_cons_succ])
 go_cut [13] (fun v13 wc => ∃ (kq : Nat) (x13_1 : Bool), v13 = .bool x13_1 ∧ Aside0 (chart_May.j0 kq x13_1 a0_0 l0_1 = some r) ∧ Aside0 (kq ≤ k) ∧ Aside0 (wc.heap[gb268]? = some (.cells #[.int .i64 a0_0, (.slice A0_1 l0_1.length c0_1)] 45 (0, 0))) ∧ Aside0 (Below w.heap.size w wc))
 case first =>
  have H := HC2.out
  clear HC2
  by_cases c4 : a0_0 < 1
  ·rw [if_pos c4] at H
   have c4b0 : decide (a0_0 < 1) = true := decide_eq_true c4
   clear c4
   (first | rw [c4b0] | (simp only [i64_w, i32_w]; rw [c4b0]) | skip)
   have H' := Aside0.mk H
   clear H
   have hcz5_0 : w3.cell? ⟨gb268, 0, none⟩ = some (.int .i64 a0_0) := (blk_cell BK268.out 0).trans rfl
   have hcz5_1 : w3.cell? ⟨gb268, 1, none⟩ = some (.slice A0_1 l0_1.length c0_1) := (blk_cell BK268.out 1).trans rfl
   have hfz5_0 := blk_frozen BK268.out 0
   have hfz5_1 := blk_frozen BK268.out 1
   go_wp2
   go_meet
   case rel => exact ⟨_, (true), (by first | rfl | (simp; done) | (simp [*]; done)), H', ⟨by first | omega | exact Nat.le_refl _⟩, ⟨by (with_reducible repeat (first | refine blk_drewN ?_ _ | refine blk_drew ?_ | refine blk_alloc ?_ _)); exact BK268.out⟩, ⟨by repeat (first | (with_reducible first | exact HB.out | apply below_alloc | apply pw_below_drewN | apply below_drew1 | refine below_set ?_ GE268.out) | exact HB.out)⟩⟩
  ·rw [if_neg c4] at H
   have c4b0 : decide (a0_0 < 1) = false := decide_eq_false c4
   clear c4
   (first | rw [c4b0] | (simp only [i64_w, i32_w]; rw [c4b0]) | skip)
   have H' := Aside0.mk H
   clear H
   have hcz6_0 : w3.cell? ⟨gb268, 0, none⟩ = some (.int .i64 a0_0) := (blk_cell BK268.out 0).trans rfl
   have hcz6_1 : w3.cell? ⟨gb268, 1, none⟩ = some (.slice A0_1 l0_1.length c0_1) := (blk_cell BK268.out 1).trans rfl
   have hfz6_0 := blk_frozen BK268.out 0
   have hfz6_1 := blk_frozen BK268.out 1
   go_wp2
   go_meet
   case rel => exact ⟨_, (decide (a0_0 > 1099511627776)), (by first | rfl | (simp; done) | (simp [*]; done)), H', ⟨by first | omega | exact Nat.le_refl _⟩, ⟨by (with_reducible repeat (first | refine blk_drewN ?_ _ | refine blk_drew ?_ | refine blk_alloc ?_ _)); exact BK268.out⟩, ⟨by repeat (first | (with_reducible first | exact HB.out | apply below_alloc | apply pw_below_drewN | apply below_drew1 | refine below_set ?_ GE268.out) | exact HB.out)⟩⟩
 case rest =>
  clear HC2
  try clear p2
  try clear c4
  try clear c4b0
  try clear c5
  try clear hcz5_0
  try clear hcz5_1
  try clear hcz6_0
  try clear hcz6_1
  try clear hfz5_0
  try clear hfz5_1
  try clear hfz6_0
  try clear hfz6_1
  obtain ⟨kq, x13_1, rfl, HA, HJ1, BK268, HB⟩ := hcut
  cases kq with
  | zero => exact absurd HA.out (by simp [chart_May.j0])
  | succ kj1 =>
   have H := HA.out
   clear HA
   simp only [chart_May.j0] at H
   by_cases c7 : x13_1 = true
   ·subst c7
    have H1 : (some false) = some r := by rw [if_pos rfl] at H; exact H
    clear H
    have H := H1
    clear H1
    obtain rfl := Option.some.inj H
    go_wp2
    go_ret
    exact ⟨by first | rfl | (simp [errW_none, errW_some] <;> rfl) | (simp [*, errW_none, errW_some] <;> rfl), by repeat (first | (with_reducible first | exact HB.out | apply below_alloc | apply pw_below_drewN | apply below_drew1 | refine below_set ?_ GE268.out) | exact HB.out)⟩
   ·replace c7 := Bool.eq_false_iff.mpr c7
    subst c7
    have H1 : (chart_May.l0 kj1 ([] : List (S35)) l0_1 (l0_1.length : Int) 0 a0_0 l0_1) = some r := by rw [if_neg (show ¬ (false = true) by decide)] at H; exact H
    clear H
    have H := H1
    clear H1
    have H' := Aside0.mk H
    clear H
    have hcz8_0 : wc.cell? ⟨gb268, 0, none⟩ = some (.int .i64 a0_0) := (blk_cell BK268.out 0).trans rfl
    have hcz8_1 : wc.cell? ⟨gb268, 1, none⟩ = some (.slice A0_1 l0_1.length c0_1) := (blk_cell BK268.out 1).trans rfl
    have hfz8_0 := blk_frozen BK268.out 0
    have hfz8_1 := blk_frozen BK268.out 1
    go_wp2
    go_loopg [3, 17] kj1 (fun kq v3 v17 w' => ∃ (x3_2 : List (S35)) (x17_2 : Int), v17 = .int .i64 x17_2 ∧ Aside0 (chart_May.l0 kq x3_2 l0_1 (l0_1.length : Int) x17_2 a0_0 l0_1 = some r) ∧ Aside0 (kq ≤ kj1) ∧ Aside0 (Kd.R k35 35 w' w.heap.size (fun _ => True) v3 x3_2) ∧ Aside0 (w'.heap[gb268]? = some (.cells #[.int .i64 a0_0, (.slice A0_1 l0_1.length c0_1)] 45 (0, 0))) ∧ Aside0 (Below w.heap.size w w'))
    case atStart => exact ⟨(([] : List (S35))), (0), (by first | rfl | (simp; done) | (simp [*]; done)), H', ⟨Nat.le_refl _⟩, ⟨by first | exact Kd.R_nil _ _ _ _ _ | exact Kd.N_nil _ _ _ _ _ | exact Kd.V_nil _ _ _ _ _ | exact Kd.Q_nil _ _ _ _ _ | exact Kd.S_nil _ _ _ _ _⟩, ⟨by (with_reducible repeat (first | refine blk_drewN ?_ _ | refine blk_drew ?_ | refine blk_alloc ?_ _)); exact BK268.out⟩, ⟨by repeat (first | (with_reducible first | exact HB.out | apply below_alloc | apply pw_below_drewN | apply below_drew1 | refine below_set ?_ GE268.out) | exact HB.out)⟩⟩
    case round =>
     clear H'
     try clear p2
     try clear c4
     try clear c4b0
     try clear c5
     try clear c7
     try clear hcz5_0
     try clear hcz5_1
     try clear hcz6_0
     try clear hcz6_1
     try clear hcz8_0
     try clear hcz8_1
     try clear hfz5_0
     try clear hfz5_1
     try clear hfz6_0
     try clear hfz6_1
     try clear hfz8_0
     try clear hfz8_1
     try clear p2
     obtain ⟨x3_2, x17_2, rfl, HA, HK2, HO_3, BK268, HB⟩ := hrel
     cases gk with
     | zero => exact absurd HA.out (by simp [chart_May.l0])
     | succ k2 =>
      have H := HA.out
      clear HA
      simp only [chart_May.l0] at H
      by_cases c9 : x17_2 < (l0_1.length : Int)
      ·rw [if_pos c9] at H
       have c9b0 : decide (x17_2 < (l0_1.length : Int)) = true := decide_eq_true c9
       clear c9
       by_cases c10 : 0 ≤ x17_2
       ·rw [if_pos c10] at H
        have c10b0 : decide (0 ≤ x17_2) = true := decide_eq_true c10
        clear c10
        by_cases c11 : x17_2 < (l0_1.length : Int)
        ·rw [if_pos c11] at H
         have c11b0 : decide (x17_2 < (l0_1.length : Int)) = true := decide_eq_true c11
         clear c11
         replace H := Option.bind_eq_some_iff.mp H
         obtain ⟨t271, A120, H⟩ := H
         replace H : (if t271 = true then (if x17_2 > 0 then (if 0 ≤ (wrap64 (x17_2 - 1)) then (if (wrap64 (x17_2 - 1)) < (l0_1.length : Int) then (if ((rd_T108 l0_1 x17_2).f0.f0) < ((rd_T108 l0_1 (wrap64 (x17_2 - 1))).f0.f1) then (some false) else (if ((rd_T108 l0_1 x17_2).f1) = ((rd_T108 l0_1 (wrap64 (x17_2 - 1))).f1) then (some false) else (if x3_2.length < 8796093022208 then (chart_May.l0 k2 (x3_2 ++ [(⟨(rd_T108 l0_1 x17_2).f0.f0, (rd_T108 l0_1 x17_2).f0.f1⟩ : S35)]) l0_1 (l0_1.length : Int) (wrap64 (x17_2 + 1)) a0_0 l0_1) else (none)))) else (none)) else (none)) else (if x3_2.length < 8796093022208 then (chart_May.l0 k2 (x3_2 ++ [(⟨(rd_T108 l0_1 x17_2).f0.f0, (rd_T108 l0_1 x17_2).f0.f1⟩ : S35)]) l0_1 (l0_1.length : Int) (wrap64 (x17_2 + 1)) a0_0 l0_1) else (none))) else (some false)) = some r := H
         have A12 := Aside0.mk A120
         clear A120
         by_cases c13 : t271 = true
         ·subst c13
          have H1 : (if x17_2 > 0 then (if 0 ≤ (wrap64 (x17_2 - 1)) then (if (wrap64 (x17_2 - 1)) < (l0_1.length : Int) then (if ((rd_T108 l0_1 x17_2).f0.f0) < ((rd_T108 l0_1 (wrap64 (x17_2 - 1))).f0.f1) then (some false) else (if ((rd_T108 l0_1 x17_2).f1) = ((rd_T108 l0_1 (wrap64 (x17_2 - 1))).f1) then (some false) else (if x3_2.length < 8796093022208 then (chart_May.l0 k2 (x3_2 ++ [(⟨(rd_T108 l0_1 x17_2).f0.f0, (rd_T108 l0_1 x17_2).f0.f1⟩ : S35)]) l0_1 (l0_1.length : Int) (wrap64 (x17_2 + 1)) a0_0 l0_1) else (none)))) else (none)) else (none)) else (if x3_2.length < 8796093022208 then (chart_May.l0 k2 (x3_2 ++ [(⟨(rd_T108 l0_1 x17_2).f0.f0, (rd_T108 l0_1 x17_2).f0.f1⟩ : S35)]) l0_1 (l0_1.length : Int) (wrap64 (x17_2 + 1)) a0_0 l0_1) else (none))) = some r := by rw [if_pos rfl] at H; exact H
          clear H
          have H := H1
          clear H1
          by_cases c14 : x17_2 > 0
          ·rw [if_pos c14] at H
           have c14b0 : decide (0 < x17_2) = true := decide_eq_true c14
           clear c14
           obtain ⟨ji15, hji15⟩ : ∃ j_ : Int, (wrap64 (x17_2 - 1)) = j_ := ⟨_, rfl⟩
           replace H : (if 0 ≤ (ji15) then (if (ji15) < (l0_1.length : Int) then (if ((rd_T108 l0_1 x17_2).f0.f0) < ((rd_T108 l0_1 (ji15)).f0.f1) then (some false) else (if ((rd_T108 l0_1 x17_2).f1) = ((rd_T108 l0_1 (ji15)).f1) then (some false) else (if x3_2.length < 8796093022208 then (chart_May.l0 k2 (x3_2 ++ [(⟨(rd_T108 l0_1 x17_2).f0.f0, (rd_T108 l0_1 x17_2).f0.f1⟩ : S35)]) l0_1 (l0_1.length : Int) (wrap64 (x17_2 + 1)) a0_0 l0_1) else (none)))) else (none)) else (none)) = some r := by first | (rw [hji15] at H; exact H) | (simp only [hji15] at H ⊢; exact H)
           (try rw [hji15] at A12)
           have hji15w : (IntKind.i64.wrap (x17_2 - 1)) = ji15 := (i64_w _).trans hji15
           by_cases c16 : 0 ≤ (ji15)
           ·rw [if_pos c16] at H
            have c16b0 : decide (0 ≤ (ji15)) = true := decide_eq_true c16
            clear c16
            by_cases c17 : (ji15) < (l0_1.length : Int)
            ·rw [if_pos c17] at H
             have c17b0 : decide ((ji15) < (l0_1.length : Int)) = true := decide_eq_true c17
             clear c17
             by_cases c18 : ((rd_T108 l0_1 x17_2).f0.f0) < ((rd_T108 l0_1 (ji15)).f0.f1)
             ·rw [if_pos c18] at H
              have c18b0 : decide (((rd_T108 l0_1 x17_2).f0.f0) < ((rd_T108 l0_1 (ji15)).f0.f1)) = true := decide_eq_true c18
              clear c18
              obtain rfl := Option.some.inj H
              have p269 : 0 ≤ (x17_2 : Int) := of_decide_eq_true (by first | (with_reducible assumption) | assumption)
              have q269 : x17_2 < (l0_1.length : Int) := of_decide_eq_true (by first | (with_reducible assumption) | assumption)
              obtain ⟨ad269, e269, hx269_0, hx269_1, hx269_2⟩ := at_T108 HR0_1.out x17_2 p269 q269
              cases e269
              replace hx269_0 := (HB.out.cell (World.block_lt_of_cell? w _ hx269_0)).trans hx269_0
              replace hx269_1 := (HB.out.cell (World.block_lt_of_cell? w _ hx269_1)).trans hx269_1
              replace hx269_2 := (HB.out.cell (World.block_lt_of_cell? w _ hx269_2)).trans hx269_2
              replace p269 := eq_true p269
              replace q269 := eq_true q269
              try go_wp2_with (first | ((with_reducible refine gate_dst (N := 5) rfl ?_); refine box_event ?hg (N := 5) ?hd (cs := #[.int .i64 0, .int .i64 0, .int .i64 0]) (t := 108) ?hr ?_; (case hd => rfl); (case hg => rfl); (case hr => first | (go_simp; done) | (go_simp; rfl)); intro gb270 hg w19 hbox hb; have n0_ := Aside0.mk (Kd.R_below (by (with_reducible repeat (first | apply Kd.R_alloc | apply Kd.R_drewN | apply Kd.R_drew)); exact HO_3.out) hb); have n1_ := Aside0.mk (blk_below (g := gb268) (o := .cells #[.int .i64 a0_0, .slice (some ad269) l0_1.length c0_1] 45 (0, 0)) (by (with_reducible repeat (first | refine blk_drewN ?_ _ | refine blk_drew ?_ | refine blk_alloc ?_ _)); exact BK268.out) hb); have n2_ := Aside0.mk (below_step (by repeat (first | (with_reducible first | exact HB.out | apply below_alloc | apply pw_below_drewN | apply below_drew1 | refine below_set ?_ GE268.out) | exact HB.out)) hb); have n3_ := Aside0.mk (hbox); have n4_ := Aside0.mk ((by rw [hg]; exact (below_size (by repeat (first | (with_reducible first | exact HB.out | apply below_alloc | apply pw_below_drewN | apply below_drew1 | refine below_set ?_ GE268.out) | exact HB.out))) : w.heap.size ≤ gb270)); have n5_ := Aside0.mk ((by rw [hg]; exact (below_size (by repeat (first | (with_reducible first | exact HB.out | apply below_alloc | apply pw_below_drewN | apply below_drew1 | refine below_set ?_ GE268.out) | exact HB.out))) : w.heap.size ≤ gb270)); have n6_ := Aside0.mk ((by rw [hg]; exact Nat.ne_of_lt (blk_lt (g := gb268) (o := .cells #[.int .i64 a0_0, .slice (some ad269) l0_1.length c0_1] 45 (0, 0)) (by (with_reducible repeat (first | refine blk_drewN ?_ _ | refine blk_drew ?_ | refine blk_alloc ?_ _)); exact BK268.out)) : gb268 ≠ gb270)); have n7_ := Aside0.mk ((by rw [hg]; exact Nat.ne_of_gt (blk_lt (g := gb268) (o := .cells #[.int .i64 a0_0, .slice (some ad269) l0_1.length c0_1] 45 (0, 0)) (by (with_reducible repeat (first | refine blk_drewN ?_ _ | refine blk_drew ?_ | refine blk_alloc ?_ _)); exact BK268.out)) : gb270 ≠ gb268)); clear HO_3; clear BK268; clear HB; have HO_3 := n0_; have BK268 := n1_; have HB := n2_; have BK270 := n3_; have GW270 := n4_; have GE270 := n5_; have NB268_270 := n6_; have NB270_268 := n7_; clear n0_ n1_ n2_ n3_ n4_ n5_ n6_ n7_; clear hb hbox hg; have hnb20 := NB270_268.out; have hnc20 := NB268_270.out; have hcz21_0 : w19.cell? ⟨gb270, 0, none⟩ = some (.int .i64 0) := (blk_cell BK270.out 0).trans rfl; have hcz21_1 : w19.cell? ⟨gb270, 1, none⟩ = some (.int .i64 0) := (blk_cell BK270.out 1).trans rfl; have hcz21_2 : w19.cell? ⟨gb270, 2, none⟩ = some (.int .i64 0) := (blk_cell BK270.out 2).trans rfl; have hfz21_0 := blk_frozen BK270.out 0; have hfz21_1 := blk_frozen BK270.out 1; have hfz21_2 := blk_frozen BK270.out 2))
              have n0_ : Aside0 (Kd.R k35 35 (((w19.setCell ⟨gb270, 0, none⟩ (.int .i64 ((rd_T108 l0_1 x17_2).f0.f0))).setCell ⟨gb270, 1, none⟩ (.int .i64 ((rd_T108 l0_1 x17_2).f0.f1))).setCell ⟨gb270, 2, none⟩ (.int .i64 ((rd_T108 l0_1 x17_2).f1))) w.heap.size (fun _ => True) u3 x3_2) := ⟨by (with_reducible repeat (first | apply Kd.R_alloc | apply Kd.R_drewN | apply Kd.R_drew)); exact Kd.R_mono (Kd.R_far (p := ⟨gb270, 2, none⟩) (Kd.R_far (p := ⟨gb270, 1, none⟩) (Kd.R_far (p := ⟨gb270, 0, none⟩) (Kd.R_types HO_3.out BK270.out (by decide)) (fun _ hk => hk.2) (.int .i64 ((rd_T108 l0_1 x17_2).f0.f0))) (fun _ hk => hk.2) (.int .i64 ((rd_T108 l0_1 x17_2).f0.f1))) (fun _ hk => hk.2) (.int .i64 ((rd_T108 l0_1 x17_2).f1))) (fun _ hk => trivial)⟩
              have n1_ : Aside0 ((((w19.setCell ⟨gb270, 0, none⟩ (.int .i64 ((rd_T108 l0_1 x17_2).f0.f0))).setCell ⟨gb270, 1, none⟩ (.int .i64 ((rd_T108 l0_1 x17_2).f0.f1))).setCell ⟨gb270, 2, none⟩ (.int .i64 ((rd_T108 l0_1 x17_2).f1))).heap[gb268]? = some (.cells #[.int .i64 a0_0, .slice (some ad269) l0_1.length c0_1] 45 (0, 0))) := ⟨by (with_reducible repeat (first | refine blk_drewN ?_ _ | refine blk_drew ?_ | refine blk_alloc ?_ _)); refine blk_far ?_ NB268_270.out _; (with_reducible repeat (first | refine blk_drewN ?_ _ | refine blk_drew ?_ | refine blk_alloc ?_ _)); refine blk_far ?_ NB268_270.out _; (with_reducible repeat (first | refine blk_drewN ?_ _ | refine blk_drew ?_ | refine blk_alloc ?_ _)); refine blk_far ?_ NB268_270.out _; (with_reducible repeat (first | refine blk_drewN ?_ _ | refine blk_drew ?_ | refine blk_alloc ?_ _)); exact BK268.out⟩
              have n2_ : Aside0 ((((w19.setCell ⟨gb270, 0, none⟩ (.int .i64 ((rd_T108 l0_1 x17_2).f0.f0))).setCell ⟨gb270, 1, none⟩ (.int .i64 ((rd_T108 l0_1 x17_2).f0.f1))).setCell ⟨gb270, 2, none⟩ (.int .i64 ((rd_T108 l0_1 x17_2).f1))).heap[gb270]? = some (.cells #[.int .i64 ((rd_T108 l0_1 x17_2).f0.f0), .int .i64 ((rd_T108 l0_1 x17_2).f0.f1), .int .i64 ((rd_T108 l0_1 x17_2).f1)] 108 (0, 0))) := ⟨by (with_reducible repeat (first | refine blk_drewN ?_ _ | refine blk_drew ?_ | refine blk_alloc ?_ _)); refine blk_put (cs := #[.int .i64 ((rd_T108 l0_1 x17_2).f0.f0), .int .i64 ((rd_T108 l0_1 x17_2).f0.f1), .int .i64 0]) ?_ 2 _ rfl; (with_reducible repeat (first | refine blk_drewN ?_ _ | refine blk_drew ?_ | refine blk_alloc ?_ _)); refine blk_put (cs := #[.int .i64 ((rd_T108 l0_1 x17_2).f0.f0), .int .i64 0, .int .i64 0]) ?_ 1 _ rfl; (with_reducible repeat (first | refine blk_drewN ?_ _ | refine blk_drew ?_ | refine blk_alloc ?_ _)); refine blk_put (cs := #[.int .i64 0, .int .i64 0, .int .i64 0]) ?_ 0 _ rfl; (with_reducible repeat (first | refine blk_drewN ?_ _ | refine blk_drew ?_ | refine blk_alloc ?_ _)); exact BK270.out⟩
              have n3_ : Aside0 (Below w.heap.size w (((w19.setCell ⟨gb270, 0, none⟩ (.int .i64 ((rd_T108 l0_1 x17_2).f0.f0))).setCell ⟨gb270, 1, none⟩ (.int .i64 ((rd_T108 l0_1 x17_2).f0.f1))).setCell ⟨gb270, 2, none⟩ (.int .i64 ((rd_T108 l0_1 x17_2).f1)))) := ⟨by repeat (first | (with_reducible first | exact HB.out | apply below_alloc | apply pw_below_drewN | apply below_drew1 | refine below_set ?_ GE268.out | refine below_set ?_ GE270.out) | exact HB.out)⟩
              (try clear HO_3)
              (try clear BK268)
              (try clear BK270)
              (try clear HB)
              generalize (((w19.setCell ⟨gb270, 0, none⟩ (.int .i64 ((rd_T108 l0_1 x17_2).f0.f0))).setCell ⟨gb270, 1, none⟩ (.int .i64 ((rd_T108 l0_1 x17_2).f0.f1))).setCell ⟨gb270, 2, none⟩ (.int .i64 ((rd_T108 l0_1 x17_2).f1))) = w22 at n0_ n1_ n2_ n3_ ⊢
              have HO_3 := n0_
              have BK268 := n1_
              have BK270 := n2_
              have HB := n3_
              clear n0_ n1_ n2_ n3_
              have n0_ := Aside0.mk (Kd.R_drew HO_3.out)
              have n1_ := Aside0.mk (blk_drew BK268.out)
              have n2_ := Aside0.mk (blk_drew BK270.out)
              have n3_ := Aside0.mk (below_drew1 HB.out)
              clear HO_3
              clear BK268
              clear BK270
              clear HB
              have HO_3 := n0_
              have BK268 := n1_
              have BK270 := n2_
              have HB := n3_
              clear n0_ n1_ n2_ n3_
              have p272 : 0 ≤ ((ji15) : Int) := of_decide_eq_true (by first | (with_reducible assumption) | assumption)
              have q272 : (ji15) < (l0_1.length : Int) := of_decide_eq_true (by first | (with_reducible assumption) | assumption)
              obtain ⟨ad272, e272, hx272_0, hx272_1, hx272_2⟩ := at_T108 HR0_1.out (ji15) p272 q272
              have hw272_2 := hx272_2
              have hw272_1 := hx272_1
              have hw272_0 := hx272_0
              obtain rfl : ad269 = ad272 := (by injection e272)
              replace hx272_0 := (HB.out.cell (World.block_lt_of_cell? w _ hx272_0)).trans hx272_0
              replace hx272_1 := (HB.out.cell (World.block_lt_of_cell? w _ hx272_1)).trans hx272_1
              replace hx272_2 := (HB.out.cell (World.block_lt_of_cell? w _ hx272_2)).trans hx272_2
              replace p272 := eq_true p272
              replace q272 := eq_true q272
              refine start_ (n := 34) (S := fun w' => w'.cell? ⟨gb270, 0, none⟩ = some (.int .i64 ((rd_T108 l0_1 x17_2).f0.f0)) ∧ w'.cell? ⟨gb270, 1, none⟩ = some (.int .i64 ((rd_T108 l0_1 x17_2).f0.f1)) ∧ w'.cell? ⟨gb270, 2, none⟩ = some (.int .i64 ((rd_T108 l0_1 x17_2).f1)) ∧ w'.cell? ⟨gb268, 0, none⟩ = some (.int .i64 a0_0) ∧ w'.cell? ⟨gb268, 1, none⟩ = some (.slice (some ad269) l0_1.length c0_1) ∧ w'.cell? (ad269.add (((ji15)).toNat * 3)) = some (.int .i64 ((rd_T108 l0_1 (ji15)).f0.f0)) ∧ w'.cell? ⟨(ad269.add (((ji15)).toNat * 3)).block, (ad269.add (((ji15)).toNat * 3)).off + 1, none⟩ = some (.int .i64 ((rd_T108 l0_1 (ji15)).f0.f1)) ∧ w'.cell? ⟨(ad269.add (((ji15)).toNat * 3)).block, (ad269.add (((ji15)).toNat * 3)).off + 2, none⟩ = some (.int .i64 ((rd_T108 l0_1 (ji15)).f1))) (ds := []) (bq 34 0) (by kernel_rfl) rfl rfl ⟨(blk_cell BK270.out 0).trans rfl, (blk_cell BK270.out 1).trans rfl, (blk_cell BK270.out 2).trans rfl, (blk_cell BK268.out 0).trans rfl, (blk_cell BK268.out 1).trans rfl, ((HB.out.cell (World.block_lt_of_cell? w _ hw272_0)).trans hw272_0), ((HB.out.cell (World.block_lt_of_cell? w _ hw272_1)).trans hw272_1), ((HB.out.cell (World.block_lt_of_cell? w _ hw272_2)).trans hw272_2)⟩ (fun hHeld => ?_); refine with_tabW chart_May.tab7 chart_May.bits7 (fun HT_ HW_ => ?_)
              generalize w22.drew = w23 at HO_3 BK268 BK270 HB hx272_0 hx272_1 hx272_2 hHeld ⊢
              refine pu 0 22 (bq 34 1) ?_ rfl rfl (any_of HT_.out (by kernel_rfl)) (fun _ _ _ h => h) (by rfl) ?_ ?_ ?_ ?_
              rotate_left
              ·intro w'; go_simp; with_reducible rfl
              rotate_left
              ·simp only [Act.put, sqA, sqB, sqC, i64_w, i32_w]
               rfl
              refine tk 1 23 (bq 34 3) ?_ rfl rfl (take_ofW HT_.out HW_.out (by kernel_rfl)) (fun _ _ _ h => h) (by rfl) ?_ hHeld ?_ ?_ ?_
              rotate_left
              ·rintro w' ⟨s0, s1, s2, s3, s4, s5, s6, s7⟩
               go_simp
               with_reducible rfl
              rotate_left
              ·simp only [Act.put, sqA, sqB, sqC, i64_w, i32_w]
               rfl
              refine one_ (i := 2) (N := some 24) (bq 34 7) rfl rfl (one_of HT_.out (by kernel_rfl)) (by decide) (fun K hK => ?_)
              refine goes_ Try.func62 (by kernel_rfl) rfl #[.int .i64 ((rd_T108 l0_1 x17_2).f1)] (by rfl) rfl rfl (by (try simp only [List.map_toArray, List.map_cons, List.map_nil]); first | done | rfl | (simp only [List.length_drop, List.length_take]; rfl)) ?_
              with_reducible refine (chart_shard.calls ((rd_T108 l0_1 x17_2).f1) true _ A12.out).mono ?_
              rintro e w' ⟨rfl, ⟨nd, rfl⟩⟩
              refine ⟨_, rfl, ?_⟩
              refine hK.out _ _ ⟨(blk_cell BK270.out 0).trans rfl, (blk_cell BK270.out 1).trans rfl, (blk_cell BK270.out 2).trans rfl, (blk_cell BK268.out 0).trans rfl, (blk_cell BK268.out 1).trans rfl, ((HB.out.cell (World.block_lt_of_cell? w _ hw272_0)).trans hw272_0), ((HB.out.cell (World.block_lt_of_cell? w _ hw272_1)).trans hw272_1), ((HB.out.cell (World.block_lt_of_cell? w _ hw272_2)).trans hw272_2)⟩ (fun hHeld => ?_)
              clear hK K
              refine norm_ (a' := ?_) ?_ ?_
              rotate_left
              ·show Act.put _ (some 24) _ = _
               simp only [Act.put, sqA, sqB, sqC, i64_w, i32_w]
               rfl
              refine pu 3 25 (bq 34 15) ?_ rfl rfl (any_of HT_.out (by kernel_rfl)) (fun _ _ _ h => h) (by rfl) ?_ ?_ ?_ ?_
              rotate_left
              ·intro w'; go_simp; with_reducible rfl
              rotate_left
              ·simp only [Act.put, sqA, sqB, sqC, i64_w, i32_w]
               rfl
              refine pu 4 26 (bq 34 31) ?_ rfl rfl (any_of HT_.out (by kernel_rfl)) (fun _ _ _ h => h) (by rfl) ?_ ?_ ?_ ?_
              rotate_left
              ·intro w'; go_simp; with_reducible rfl
              rotate_left
              ·simp only [Act.put, sqA, sqB, sqC, i64_w, i32_w]
               rfl
              refine pu 5 27 (bq 34 63) ?_ rfl rfl (any_of HT_.out (by kernel_rfl)) (fun _ _ _ h => h) (by rfl) ?_ ?_ ?_ ?_
              rotate_left
              ·intro w'; go_simp; with_reducible rfl
              rotate_left
              ·simp only [Act.put, sqA, sqB, sqC, i64_w, i32_w]
               rfl
              refine pu 6 28 (bq 34 127) ?_ rfl rfl (any_of HT_.out (by kernel_rfl)) (fun _ _ _ h => h) (by rfl) ?_ ?_ ?_ ?_
              rotate_left
              ·intro w'; go_simp; with_reducible rfl
              rotate_left
              ·simp only [Act.put, sqA, sqB, sqC, i64_w, i32_w]
               rfl
              refine pu 7 29 (bq 34 255) ?_ rfl rfl (any_of HT_.out (by kernel_rfl)) (fun _ _ _ h => h) (by rfl) ?_ ?_ ?_ ?_
              rotate_left
              ·intro w'; go_simp; with_reducible rfl
              rotate_left
              ·simp only [Act.put, sqA, sqB, sqC, i64_w, i32_w]
               rfl
              refine pu 8 30 (bq 34 511) ?_ rfl rfl (any_of HT_.out (by kernel_rfl)) (fun _ _ _ h => h) (by rfl) ?_ ?_ ?_ ?_
              rotate_left
              ·intro w'; go_simp; with_reducible rfl
              rotate_left
              ·simp only [Act.put, sqA, sqB, sqC, i64_w, i32_w]
               rfl
              refine pu 9 31 (bq 34 1023) ?_ rfl rfl (any_of HT_.out (by kernel_rfl)) (fun _ _ _ h => h) (by rfl) ?_ ?_ ?_ ?_
              rotate_left
              ·intro w'; go_simp; with_reducible rfl
              rotate_left
              ·simp only [Act.put, sqA, sqB, sqC, i64_w, i32_w]
               rfl
              refine pu 11 33 (bq 34 3071) ?_ rfl rfl (any_of HT_.out (by kernel_rfl)) (fun _ _ _ h => h) (by rfl) ?_ ?_ ?_ ?_
              rotate_left
              ·intro w'; go_simp; with_reducible rfl
              rotate_left
              ·simp only [Act.put, sqA, sqB, sqC, i64_w, i32_w]
               rfl
              refine pu 13 35 (bq 34 11263) ?_ rfl rfl (any_of HT_.out (by kernel_rfl)) (fun _ _ _ h => h) (by rfl) ?_ ?_ ?_ ?_
              rotate_left
              ·intro w'; go_simp; with_reducible rfl
              rotate_left
              ·simp only [Act.put, sqA, sqB, sqC, i64_w, i32_w]
               rfl
              refine pu 14 36 (bq 34 27647) ?_ rfl rfl (any_of HT_.out (by kernel_rfl)) (fun _ _ _ h => h) (by rfl) ?_ ?_ ?_ ?_
              rotate_left
              ·intro w'; go_simp; with_reducible rfl
              rotate_left
              ·simp only [Act.put, sqA, sqB, sqC, i64_w, i32_w]
               rfl
              refine tk 10 32 (bq 34 28671) ?_ rfl rfl (take_ofW HT_.out HW_.out (by kernel_rfl)) (fun _ _ _ h => h) (by rfl) ?_ hHeld ?_ ?_ ?_
              rotate_left
              ·rintro w' ⟨s0, s1, s2, s3, s4, s5, s6, s7⟩
               go_simp
               with_reducible rfl
              rotate_left
              ·simp only [Act.put, sqA, sqB, sqC, i64_w, i32_w]
               rfl
              refine tk 12 34 (bq 34 32767) ?_ rfl rfl (take_ofW HT_.out HW_.out (by kernel_rfl)) (fun _ _ _ h => h) (by rfl) ?_ hHeld ?_ ?_ ?_
              rotate_left
              ·rintro w' ⟨s0, s1, s2, s3, s4, s5, s6, s7⟩
               go_simp
               with_reducible rfl
              rotate_left
              ·simp only [Act.put, sqA, sqB, sqC, i64_w, i32_w]
               rfl
              refine pu 15 37 (bq 34 65535) ?_ rfl rfl (any_of HT_.out (by kernel_rfl)) (fun _ _ _ h => h) (by rfl) ?_ ?_ ?_ ?_
              rotate_left
              ·intro w'; go_simp; with_reducible rfl
              rotate_left
              ·simp only [Act.put, sqA, sqB, sqC, i64_w, i32_w]
               rfl
              refine pu 16 38 (bq 34 131071) ?_ rfl rfl (any_of HT_.out (by kernel_rfl)) (fun _ _ _ h => h) (by rfl) ?_ ?_ ?_ ?_
              rotate_left
              ·intro w'; go_simp; with_reducible rfl
              rotate_left
              ·simp only [Act.put, sqA, sqB, sqC, i64_w, i32_w]
               rfl
              refine pu 17 39 (bq 34 262143) ?_ rfl rfl (any_of HT_.out (by kernel_rfl)) (fun _ _ _ h => h) (by rfl) ?_ ?_ ?_ ?_
              rotate_left
              ·intro w'; go_simp; with_reducible rfl
              rotate_left
              ·simp only [Act.put, sqA, sqB, sqC, i64_w, i32_w]
               rfl
              refine tk 18 40 (bq 34 524287) ?_ rfl rfl (take_ofW HT_.out HW_.out (by kernel_rfl)) (fun _ _ _ h => h) (by rfl) ?_ hHeld ?_ ?_ ?_
              rotate_left
              ·rintro w' ⟨s0, s1, s2, s3, s4, s5, s6, s7⟩
               go_simp
               with_reducible rfl
              rotate_left
              ·simp only [Act.put, sqA, sqB, sqC, i64_w, i32_w]
               rfl
              refine pu 19 41 (bq 34 1048575) ?_ rfl rfl (any_of HT_.out (by kernel_rfl)) (fun _ _ _ h => h) (by rfl) ?_ ?_ ?_ ?_
              rotate_left
              ·intro w'; go_simp; with_reducible rfl
              rotate_left
              ·simp only [Act.put, sqA, sqB, sqC, i64_w, i32_w]
               rfl
              refine pu 20 42 (bq 34 2097151) ?_ rfl rfl (any_of HT_.out (by kernel_rfl)) (fun _ _ _ h => h) (by rfl) ?_ ?_ ?_ ?_
              rotate_left
              ·intro w'; go_simp; with_reducible rfl
              rotate_left
              ·simp only [Act.put, sqA, sqB, sqC, i64_w, i32_w]
               rfl
              refine pure_ (i := 21) (N := some 43) (v := undef) (a' := ?_) (bq 34 4194303) rfl rfl (any_of HT_.out (by kernel_rfl)) (fun _ _ _ h => h) (Or.inr ⟨by rfl, rfl⟩) ?_ ?_
              rotate_left
              ·simp only [Act.put, sqA, sqB, sqC, i64_w, i32_w]
               rfl
              refine pure_ (i := 22) (N := some 44) (v := undef) (a' := ?_) (bq 34 8388607) rfl rfl (any_of HT_.out (by kernel_rfl)) (fun _ _ _ h => h) (Or.inr ⟨by rfl, rfl⟩) ?_ ?_
              rotate_left
              ·simp only [Act.put, sqA, sqB, sqC, i64_w, i32_w]
               rfl
              refine pure_ (i := 23) (N := some 45) (v := undef) (a' := ?_) (bq 34 16777215) rfl rfl (any_of HT_.out (by kernel_rfl)) (fun _ _ _ h => h) (Or.inr ⟨by rfl, rfl⟩) ?_ ?_
              rotate_left
              ·simp only [Act.put, sqA, sqB, sqC, i64_w, i32_w]
               rfl
              refine pure_ (i := 24) (N := some 46) (v := undef) (a' := ?_) (bq 34 33554431) rfl rfl (any_of HT_.out (by kernel_rfl)) (fun _ _ _ h => h) (Or.inr ⟨by rfl, rfl⟩) ?_ ?_
              rotate_left
              ·simp only [Act.put, sqA, sqB, sqC, i64_w, i32_w]
               rfl
              refine pure_ (i := 25) (N := some 47) (v := undef) (a' := ?_) (bq 34 67108863) rfl rfl (any_of HT_.out (by kernel_rfl)) (fun _ _ _ h => h) (Or.inr ⟨by rfl, rfl⟩) ?_ ?_
              rotate_left
              ·simp only [Act.put, sqA, sqB, sqC, i64_w, i32_w]
               rfl
              refine pure_ (i := 26) (N := some 48) (v := undef) (a' := ?_) (bq 34 134217727) rfl rfl (any_of HT_.out (by kernel_rfl)) (fun _ _ _ h => h) (Or.inr ⟨by rfl, rfl⟩) ?_ ?_
              rotate_left
              ·simp only [Act.put, sqA, sqB, sqC, i64_w, i32_w]
               rfl
              refine pure_ (i := 27) (N := some 49) (v := undef) (a' := ?_) (bq 34 268435455) rfl rfl (any_of HT_.out (by kernel_rfl)) (fun _ _ _ h => h) (Or.inr ⟨by rfl, rfl⟩) ?_ ?_
              rotate_left
              ·simp only [Act.put, sqA, sqB, sqC, i64_w, i32_w]
               rfl
              refine pure_ (i := 28) (N := some 50) (v := undef) (a' := ?_) (bq 34 536870911) rfl rfl (any_of HT_.out (by kernel_rfl)) (fun _ _ _ h => h) (Or.inr ⟨by rfl, rfl⟩) ?_ ?_
              rotate_left
              ·simp only [Act.put, sqA, sqB, sqC, i64_w, i32_w]
               rfl
              refine pure_ (i := 29) (N := some 51) (v := undef) (a' := ?_) (bq 34 1073741823) rfl rfl (any_of HT_.out (by kernel_rfl)) (fun _ _ _ h => h) (Or.inr ⟨by rfl, rfl⟩) ?_ ?_
              rotate_left
              ·simp only [Act.put, sqA, sqB, sqC, i64_w, i32_w]
               rfl
              refine pure_ (i := 30) (N := some 52) (v := undef) (a' := ?_) (bq 34 2147483647) rfl rfl (any_of HT_.out (by kernel_rfl)) (fun _ _ _ h => h) (Or.inr ⟨by rfl, rfl⟩) ?_ ?_
              rotate_left
              ·simp only [Act.put, sqA, sqB, sqC, i64_w, i32_w]
               rfl
              refine pu 31 53 (bq 34 4294967295) ?_ rfl rfl (any_of HT_.out (by kernel_rfl)) (fun _ _ _ h => h) (by rfl) ?_ ?_ ?_ ?_
              rotate_left
              ·intro w'; go_simp; with_reducible rfl
              rotate_left
              ·simp only [Act.put, sqA, sqB, sqC, i64_w, i32_w]
               rfl
              refine pu 32 54 (bq 34 8589934591) ?_ rfl rfl (any_of HT_.out (by kernel_rfl)) (fun _ _ _ h => h) (by rfl) ?_ ?_ ?_ ?_
              rotate_left
              ·intro w'; go_simp; with_reducible rfl
              rotate_left
              ·simp only [Act.put, sqA, sqB, sqC, i64_w, i32_w]
               rfl
              refine pu 33 55 (bq 34 17179869183) ?_ rfl rfl (any_of HT_.out (by kernel_rfl)) (fun _ _ _ h => h) (by rfl) ?_ ?_ ?_ ?_
              rotate_left
              ·intro w'; go_simp; with_reducible rfl
              rotate_left
              ·simp only [Act.put, sqA, sqB, sqC, i64_w, i32_w]
               rfl
              refine done_ (done_of HT_.out (by kernel_rfl)) ?_
              try go_wp2
              go_ret
              exact ⟨by first | rfl | (simp [errW_none, errW_some] <;> rfl) | (simp only [← hji15]; first | rfl | (simp [errW_none, errW_some] <;> rfl)) | (simp [*, errW_none, errW_some] <;> rfl), by repeat (first | (with_reducible first | exact HB.out | apply below_alloc | apply pw_below_drewN | apply below_drew1 | refine below_set ?_ GE268.out | refine below_set ?_ GE270.out) | exact HB.out)⟩
             ·rw [if_neg c18] at H
              have c18b0 : decide (((rd_T108 l0_1 x17_2).f0.f0) < ((rd_T108 l0_1 (ji15)).f0.f1)) = false := decide_eq_false c18
              clear c18
              by_cases c24 : ((rd_T108 l0_1 x17_2).f1) = ((rd_T108 l0_1 (ji15)).f1)
              ·rw [if_pos c24] at H
               have c24b0 : (((rd_T108 l0_1 x17_2).f1) == ((rd_T108 l0_1 (ji15)).f1)) = true := beq_iff_eq.mpr c24
               have c24b1 : (((rd_T108 l0_1 x17_2).f1) != ((rd_T108 l0_1 (ji15)).f1)) = false := bne_eq_false_iff_eq.mpr c24
               clear c24
               obtain rfl := Option.some.inj H
               have p269 : 0 ≤ (x17_2 : Int) := of_decide_eq_true (by first | (with_reducible assumption) | assumption)
               have q269 : x17_2 < (l0_1.length : Int) := of_decide_eq_true (by first | (with_reducible assumption) | assumption)
               obtain ⟨ad269, e269, hx269_0, hx269_1, hx269_2⟩ := at_T108 HR0_1.out x17_2 p269 q269
               cases e269
               replace hx269_0 := (HB.out.cell (World.block_lt_of_cell? w _ hx269_0)).trans hx269_0
               replace hx269_1 := (HB.out.cell (World.block_lt_of_cell? w _ hx269_1)).trans hx269_1
               replace hx269_2 := (HB.out.cell (World.block_lt_of_cell? w _ hx269_2)).trans hx269_2
               replace p269 := eq_true p269
               replace q269 := eq_true q269
               try go_wp2_with (first | ((with_reducible refine gate_dst (N := 5) rfl ?_); refine box_event ?hg (N := 5) ?hd (cs := #[.int .i64 0, .int .i64 0, .int .i64 0]) (t := 108) ?hr ?_; (case hd => rfl); (case hg => rfl); (case hr => first | (go_simp; done) | (go_simp; rfl)); intro gb270 hg w25 hbox hb; have n0_ := Aside0.mk (Kd.R_below (by (with_reducible repeat (first | apply Kd.R_alloc | apply Kd.R_drewN | apply Kd.R_drew)); exact HO_3.out) hb); have n1_ := Aside0.mk (blk_below (g := gb268) (o := .cells #[.int .i64 a0_0, .slice (some ad269) l0_1.length c0_1] 45 (0, 0)) (by (with_reducible repeat (first | refine blk_drewN ?_ _ | refine blk_drew ?_ | refine blk_alloc ?_ _)); exact BK268.out) hb); have n2_ := Aside0.mk (below_step (by repeat (first | (with_reducible first | exact HB.out | apply below_alloc | apply pw_below_drewN | apply below_drew1 | refine below_set ?_ GE268.out) | exact HB.out)) hb); have n3_ := Aside0.mk (hbox); have n4_ := Aside0.mk ((by rw [hg]; exact (below_size (by repeat (first | (with_reducible first | exact HB.out | apply below_alloc | apply pw_below_drewN | apply below_drew1 | refine below_set ?_ GE268.out) | exact HB.out))) : w.heap.size ≤ gb270)); have n5_ := Aside0.mk ((by rw [hg]; exact (below_size (by repeat (first | (with_reducible first | exact HB.out | apply below_alloc | apply pw_below_drewN | apply below_drew1 | refine below_set ?_ GE268.out) | exact HB.out))) : w.heap.size ≤ gb270)); have n6_ := Aside0.mk ((by rw [hg]; exact Nat.ne_of_lt (blk_lt (g := gb268) (o := .cells #[.int .i64 a0_0, .slice (some ad269) l0_1.length c0_1] 45 (0, 0)) (by (with_reducible repeat (first | refine blk_drewN ?_ _ | refine blk_drew ?_ | refine blk_alloc ?_ _)); exact BK268.out)) : gb268 ≠ gb270)); have n7_ := Aside0.mk ((by rw [hg]; exact Nat.ne_of_gt (blk_lt (g := gb268) (o := .cells #[.int .i64 a0_0, .slice (some ad269) l0_1.length c0_1] 45 (0, 0)) (by (with_reducible repeat (first | refine blk_drewN ?_ _ | refine blk_drew ?_ | refine blk_alloc ?_ _)); exact BK268.out)) : gb270 ≠ gb268)); clear HO_3; clear BK268; clear HB; have HO_3 := n0_; have BK268 := n1_; have HB := n2_; have BK270 := n3_; have GW270 := n4_; have GE270 := n5_; have NB268_270 := n6_; have NB270_268 := n7_; clear n0_ n1_ n2_ n3_ n4_ n5_ n6_ n7_; clear hb hbox hg; have hnb26 := NB270_268.out; have hnc26 := NB268_270.out; have hcz27_0 : w25.cell? ⟨gb270, 0, none⟩ = some (.int .i64 0) := (blk_cell BK270.out 0).trans rfl; have hcz27_1 : w25.cell? ⟨gb270, 1, none⟩ = some (.int .i64 0) := (blk_cell BK270.out 1).trans rfl; have hcz27_2 : w25.cell? ⟨gb270, 2, none⟩ = some (.int .i64 0) := (blk_cell BK270.out 2).trans rfl; have hfz27_0 := blk_frozen BK270.out 0; have hfz27_1 := blk_frozen BK270.out 1; have hfz27_2 := blk_frozen BK270.out 2))
               have n0_ : Aside0 (Kd.R k35 35 (((w25.setCell ⟨gb270, 0, none⟩ (.int .i64 ((rd_T108 l0_1 x17_2).f0.f0))).setCell ⟨gb270, 1, none⟩ (.int .i64 ((rd_T108 l0_1 x17_2).f0.f1))).setCell ⟨gb270, 2, none⟩ (.int .i64 ((rd_T108 l0_1 x17_2).f1))) w.heap.size (fun _ => True) u3 x3_2) := ⟨by (with_reducible repeat (first | apply Kd.R_alloc | apply Kd.R_drewN | apply Kd.R_drew)); exact Kd.R_mono (Kd.R_far (p := ⟨gb270, 2, none⟩) (Kd.R_far (p := ⟨gb270, 1, none⟩) (Kd.R_far (p := ⟨gb270, 0, none⟩) (Kd.R_types HO_3.out BK270.out (by decide)) (fun _ hk => hk.2) (.int .i64 ((rd_T108 l0_1 x17_2).f0.f0))) (fun _ hk => hk.2) (.int .i64 ((rd_T108 l0_1 x17_2).f0.f1))) (fun _ hk => hk.2) (.int .i64 ((rd_T108 l0_1 x17_2).f1))) (fun _ hk => trivial)⟩
               have n1_ : Aside0 ((((w25.setCell ⟨gb270, 0, none⟩ (.int .i64 ((rd_T108 l0_1 x17_2).f0.f0))).setCell ⟨gb270, 1, none⟩ (.int .i64 ((rd_T108 l0_1 x17_2).f0.f1))).setCell ⟨gb270, 2, none⟩ (.int .i64 ((rd_T108 l0_1 x17_2).f1))).heap[gb268]? = some (.cells #[.int .i64 a0_0, .slice (some ad269) l0_1.length c0_1] 45 (0, 0))) := ⟨by (with_reducible repeat (first | refine blk_drewN ?_ _ | refine blk_drew ?_ | refine blk_alloc ?_ _)); refine blk_far ?_ NB268_270.out _; (with_reducible repeat (first | refine blk_drewN ?_ _ | refine blk_drew ?_ | refine blk_alloc ?_ _)); refine blk_far ?_ NB268_270.out _; (with_reducible repeat (first | refine blk_drewN ?_ _ | refine blk_drew ?_ | refine blk_alloc ?_ _)); refine blk_far ?_ NB268_270.out _; (with_reducible repeat (first | refine blk_drewN ?_ _ | refine blk_drew ?_ | refine blk_alloc ?_ _)); exact BK268.out⟩
               have n2_ : Aside0 ((((w25.setCell ⟨gb270, 0, none⟩ (.int .i64 ((rd_T108 l0_1 x17_2).f0.f0))).setCell ⟨gb270, 1, none⟩ (.int .i64 ((rd_T108 l0_1 x17_2).f0.f1))).setCell ⟨gb270, 2, none⟩ (.int .i64 ((rd_T108 l0_1 x17_2).f1))).heap[gb270]? = some (.cells #[.int .i64 ((rd_T108 l0_1 x17_2).f0.f0), .int .i64 ((rd_T108 l0_1 x17_2).f0.f1), .int .i64 ((rd_T108 l0_1 x17_2).f1)] 108 (0, 0))) := ⟨by (with_reducible repeat (first | refine blk_drewN ?_ _ | refine blk_drew ?_ | refine blk_alloc ?_ _)); refine blk_put (cs := #[.int .i64 ((rd_T108 l0_1 x17_2).f0.f0), .int .i64 ((rd_T108 l0_1 x17_2).f0.f1), .int .i64 0]) ?_ 2 _ rfl; (with_reducible repeat (first | refine blk_drewN ?_ _ | refine blk_drew ?_ | refine blk_alloc ?_ _)); refine blk_put (cs := #[.int .i64 ((rd_T108 l0_1 x17_2).f0.f0), .int .i64 0, .int .i64 0]) ?_ 1 _ rfl; (with_reducible repeat (first | refine blk_drewN ?_ _ | refine blk_drew ?_ | refine blk_alloc ?_ _)); refine blk_put (cs := #[.int .i64 0, .int .i64 0, .int .i64 0]) ?_ 0 _ rfl; (with_reducible repeat (first | refine blk_drewN ?_ _ | refine blk_drew ?_ | refine blk_alloc ?_ _)); exact BK270.out⟩
               have n3_ : Aside0 (Below w.heap.size w (((w25.setCell ⟨gb270, 0, none⟩ (.int .i64 ((rd_T108 l0_1 x17_2).f0.f0))).setCell ⟨gb270, 1, none⟩ (.int .i64 ((rd_T108 l0_1 x17_2).f0.f1))).setCell ⟨gb270, 2, none⟩ (.int .i64 ((rd_T108 l0_1 x17_2).f1)))) := ⟨by repeat (first | (with_reducible first | exact HB.out | apply below_alloc | apply pw_below_drewN | apply below_drew1 | refine below_set ?_ GE268.out | refine below_set ?_ GE270.out) | exact HB.out)⟩
               (try clear HO_3)
               (try clear BK268)
               (try clear BK270)
               (try clear HB)
               generalize (((w25.setCell ⟨gb270, 0, none⟩ (.int .i64 ((rd_T108 l0_1 x17_2).f0.f0))).setCell ⟨gb270, 1, none⟩ (.int .i64 ((rd_T108 l0_1 x17_2).f0.f1))).setCell ⟨gb270, 2, none⟩ (.int .i64 ((rd_T108 l0_1 x17_2).f1))) = w28 at n0_ n1_ n2_ n3_ ⊢
               have HO_3 := n0_
               have BK268 := n1_
               have BK270 := n2_
               have HB := n3_
               clear n0_ n1_ n2_ n3_
               have n0_ := Aside0.mk (Kd.R_drew HO_3.out)
               have n1_ := Aside0.mk (blk_drew BK268.out)
               have n2_ := Aside0.mk (blk_drew BK270.out)
               have n3_ := Aside0.mk (below_drew1 HB.out)
               clear HO_3
               clear BK268
               clear BK270
               clear HB
               have HO_3 := n0_
               have BK268 := n1_
               have BK270 := n2_
               have HB := n3_
               clear n0_ n1_ n2_ n3_
               have p272 : 0 ≤ ((ji15) : Int) := of_decide_eq_true (by first | (with_reducible assumption) | assumption)
               have q272 : (ji15) < (l0_1.length : Int) := of_decide_eq_true (by first | (with_reducible assumption) | assumption)
               obtain ⟨ad272, e272, hx272_0, hx272_1, hx272_2⟩ := at_T108 HR0_1.out (ji15) p272 q272
               have hw272_2 := hx272_2
               have hw272_1 := hx272_1
               have hw272_0 := hx272_0
               obtain rfl : ad269 = ad272 := (by injection e272)
               replace hx272_0 := (HB.out.cell (World.block_lt_of_cell? w _ hx272_0)).trans hx272_0
               replace hx272_1 := (HB.out.cell (World.block_lt_of_cell? w _ hx272_1)).trans hx272_1
               replace hx272_2 := (HB.out.cell (World.block_lt_of_cell? w _ hx272_2)).trans hx272_2
               replace p272 := eq_true p272
               replace q272 := eq_true q272
               have p273 : 0 ≤ ((ji15) : Int) := of_decide_eq_true (by first | (with_reducible assumption) | assumption)
               have q273 : (ji15) < (l0_1.length : Int) := of_decide_eq_true (by first | (with_reducible assumption) | assumption)
               obtain ⟨ad273, e273, hx273_0, hx273_1, hx273_2⟩ := at_T108 HR0_1.out (ji15) p273 q273
               have hw273_2 := hx273_2
               have hw273_1 := hx273_1
               have hw273_0 := hx273_0
               obtain rfl : ad269 = ad273 := (by injection e273)
               replace hx273_0 := (HB.out.cell (World.block_lt_of_cell? w _ hx273_0)).trans hx273_0
               replace hx273_1 := (HB.out.cell (World.block_lt_of_cell? w _ hx273_1)).trans hx273_1
               replace hx273_2 := (HB.out.cell (World.block_lt_of_cell? w _ hx273_2)).trans hx273_2
               replace p273 := eq_true p273
               replace q273 := eq_true q273
               refine start_ (n := 34) (S := fun w' => w'.cell? ⟨gb270, 0, none⟩ = some (.int .i64 ((rd_T108 l0_1 x17_2).f0.f0)) ∧ w'.cell? ⟨gb270, 1, none⟩ = some (.int .i64 ((rd_T108 l0_1 x17_2).f0.f1)) ∧ w'.cell? ⟨gb270, 2, none⟩ = some (.int .i64 ((rd_T108 l0_1 x17_2).f1)) ∧ w'.cell? ⟨gb268, 0, none⟩ = some (.int .i64 a0_0) ∧ w'.cell? ⟨gb268, 1, none⟩ = some (.slice (some ad269) l0_1.length c0_1) ∧ w'.cell? (ad269.add (((ji15)).toNat * 3)) = some (.int .i64 ((rd_T108 l0_1 (ji15)).f0.f0)) ∧ w'.cell? ⟨(ad269.add (((ji15)).toNat * 3)).block, (ad269.add (((ji15)).toNat * 3)).off + 1, none⟩ = some (.int .i64 ((rd_T108 l0_1 (ji15)).f0.f1)) ∧ w'.cell? ⟨(ad269.add (((ji15)).toNat * 3)).block, (ad269.add (((ji15)).toNat * 3)).off + 2, none⟩ = some (.int .i64 ((rd_T108 l0_1 (ji15)).f1)) ∧ w'.cell? (ad269.add (((ji15)).toNat * 3)) = some (.int .i64 ((rd_T108 l0_1 (ji15)).f0.f0)) ∧ w'.cell? ⟨(ad269.add (((ji15)).toNat * 3)).block, (ad269.add (((ji15)).toNat * 3)).off + 1, none⟩ = some (.int .i64 ((rd_T108 l0_1 (ji15)).f0.f1)) ∧ w'.cell? ⟨(ad269.add (((ji15)).toNat * 3)).block, (ad269.add (((ji15)).toNat * 3)).off + 2, none⟩ = some (.int .i64 ((rd_T108 l0_1 (ji15)).f1))) (ds := []) (bq 34 0) (by kernel_rfl) rfl rfl ⟨(blk_cell BK270.out 0).trans rfl, (blk_cell BK270.out 1).trans rfl, (blk_cell BK270.out 2).trans rfl, (blk_cell BK268.out 0).trans rfl, (blk_cell BK268.out 1).trans rfl, ((HB.out.cell (World.block_lt_of_cell? w _ hw272_0)).trans hw272_0), ((HB.out.cell (World.block_lt_of_cell? w _ hw272_1)).trans hw272_1), ((HB.out.cell (World.block_lt_of_cell? w _ hw272_2)).trans hw272_2), ((HB.out.cell (World.block_lt_of_cell? w _ hw273_0)).trans hw273_0), ((HB.out.cell (World.block_lt_of_cell? w _ hw273_1)).trans hw273_1), ((HB.out.cell (World.block_lt_of_cell? w _ hw273_2)).trans hw273_2)⟩ (fun hHeld => ?_); refine with_tabW chart_May.tab7 chart_May.bits7 (fun HT_ HW_ => ?_)
               generalize w28.drew = w29 at HO_3 BK268 BK270 HB hx272_0 hx272_1 hx272_2 hx273_0 hx273_1 hx273_2 hHeld ⊢
               refine pu 0 22 (bq 34 1) ?_ rfl rfl (any_of HT_.out (by kernel_rfl)) (fun _ _ _ h => h) (by rfl) ?_ ?_ ?_ ?_
               rotate_left
               ·intro w'; go_simp; with_reducible rfl
               rotate_left
               ·simp only [Act.put, sqA, sqB, sqC, i64_w, i32_w]
                rfl
               refine tk 1 23 (bq 34 3) ?_ rfl rfl (take_ofW HT_.out HW_.out (by kernel_rfl)) (fun _ _ _ h => h) (by rfl) ?_ hHeld ?_ ?_ ?_
               rotate_left
               ·rintro w' ⟨s0, s1, s2, s3, s4, s5, s6, s7, s8, s9, s10⟩
                go_simp
                with_reducible rfl
               rotate_left
               ·simp only [Act.put, sqA, sqB, sqC, i64_w, i32_w]
                rfl
               refine one_ (i := 2) (N := some 24) (bq 34 7) rfl rfl (one_of HT_.out (by kernel_rfl)) (by decide) (fun K hK => ?_)
               refine goes_ Try.func62 (by kernel_rfl) rfl #[.int .i64 ((rd_T108 l0_1 x17_2).f1)] (by rfl) rfl rfl (by (try simp only [List.map_toArray, List.map_cons, List.map_nil]); first | done | rfl | (simp only [List.length_drop, List.length_take]; rfl)) ?_
               with_reducible refine (chart_shard.calls ((rd_T108 l0_1 x17_2).f1) true _ A12.out).mono ?_
               rintro e w' ⟨rfl, ⟨nd, rfl⟩⟩
               refine ⟨_, rfl, ?_⟩
               refine hK.out _ _ ⟨(blk_cell BK270.out 0).trans rfl, (blk_cell BK270.out 1).trans rfl, (blk_cell BK270.out 2).trans rfl, (blk_cell BK268.out 0).trans rfl, (blk_cell BK268.out 1).trans rfl, ((HB.out.cell (World.block_lt_of_cell? w _ hw272_0)).trans hw272_0), ((HB.out.cell (World.block_lt_of_cell? w _ hw272_1)).trans hw272_1), ((HB.out.cell (World.block_lt_of_cell? w _ hw272_2)).trans hw272_2), ((HB.out.cell (World.block_lt_of_cell? w _ hw273_0)).trans hw273_0), ((HB.out.cell (World.block_lt_of_cell? w _ hw273_1)).trans hw273_1), ((HB.out.cell (World.block_lt_of_cell? w _ hw273_2)).trans hw273_2)⟩ (fun hHeld => ?_)
               clear hK K
               refine norm_ (a' := ?_) ?_ ?_
               rotate_left
               ·show Act.put _ (some 24) _ = _
                simp only [Act.put, sqA, sqB, sqC, i64_w, i32_w]
                rfl
               refine pu 3 25 (bq 34 15) ?_ rfl rfl (any_of HT_.out (by kernel_rfl)) (fun _ _ _ h => h) (by rfl) ?_ ?_ ?_ ?_
               rotate_left
               ·intro w'; go_simp; with_reducible rfl
               rotate_left
               ·simp only [Act.put, sqA, sqB, sqC, i64_w, i32_w]
                rfl
               refine pu 4 26 (bq 34 31) ?_ rfl rfl (any_of HT_.out (by kernel_rfl)) (fun _ _ _ h => h) (by rfl) ?_ ?_ ?_ ?_
               rotate_left
               ·intro w'; go_simp; with_reducible rfl
               rotate_left
               ·simp only [Act.put, sqA, sqB, sqC, i64_w, i32_w]
                rfl
               refine pu 5 27 (bq 34 63) ?_ rfl rfl (any_of HT_.out (by kernel_rfl)) (fun _ _ _ h => h) (by rfl) ?_ ?_ ?_ ?_
               rotate_left
               ·intro w'; go_simp; with_reducible rfl
               rotate_left
               ·simp only [Act.put, sqA, sqB, sqC, i64_w, i32_w]
                rfl
               refine pu 6 28 (bq 34 127) ?_ rfl rfl (any_of HT_.out (by kernel_rfl)) (fun _ _ _ h => h) (by rfl) ?_ ?_ ?_ ?_
               rotate_left
               ·intro w'; go_simp; with_reducible rfl
               rotate_left
               ·simp only [Act.put, sqA, sqB, sqC, i64_w, i32_w]
                rfl
               refine pu 7 29 (bq 34 255) ?_ rfl rfl (any_of HT_.out (by kernel_rfl)) (fun _ _ _ h => h) (by rfl) ?_ ?_ ?_ ?_
               rotate_left
               ·intro w'; go_simp; with_reducible rfl
               rotate_left
               ·simp only [Act.put, sqA, sqB, sqC, i64_w, i32_w]
                rfl
               refine pu 8 30 (bq 34 511) ?_ rfl rfl (any_of HT_.out (by kernel_rfl)) (fun _ _ _ h => h) (by rfl) ?_ ?_ ?_ ?_
               rotate_left
               ·intro w'; go_simp; with_reducible rfl
               rotate_left
               ·simp only [Act.put, sqA, sqB, sqC, i64_w, i32_w]
                rfl
               refine pu 9 31 (bq 34 1023) ?_ rfl rfl (any_of HT_.out (by kernel_rfl)) (fun _ _ _ h => h) (by rfl) ?_ ?_ ?_ ?_
               rotate_left
               ·intro w'; go_simp; with_reducible rfl
               rotate_left
               ·simp only [Act.put, sqA, sqB, sqC, i64_w, i32_w]
                rfl
               refine pu 11 33 (bq 34 3071) ?_ rfl rfl (any_of HT_.out (by kernel_rfl)) (fun _ _ _ h => h) (by rfl) ?_ ?_ ?_ ?_
               rotate_left
               ·intro w'; go_simp; with_reducible rfl
               rotate_left
               ·simp only [Act.put, sqA, sqB, sqC, i64_w, i32_w]
                rfl
               refine pu 13 35 (bq 34 11263) ?_ rfl rfl (any_of HT_.out (by kernel_rfl)) (fun _ _ _ h => h) (by rfl) ?_ ?_ ?_ ?_
               rotate_left
               ·intro w'; go_simp; with_reducible rfl
               rotate_left
               ·simp only [Act.put, sqA, sqB, sqC, i64_w, i32_w]
                rfl
               refine pu 14 36 (bq 34 27647) ?_ rfl rfl (any_of HT_.out (by kernel_rfl)) (fun _ _ _ h => h) (by rfl) ?_ ?_ ?_ ?_
               rotate_left
               ·intro w'; go_simp; with_reducible rfl
               rotate_left
               ·simp only [Act.put, sqA, sqB, sqC, i64_w, i32_w]
                rfl
               refine tk 10 32 (bq 34 28671) ?_ rfl rfl (take_ofW HT_.out HW_.out (by kernel_rfl)) (fun _ _ _ h => h) (by rfl) ?_ hHeld ?_ ?_ ?_
               rotate_left
               ·rintro w' ⟨s0, s1, s2, s3, s4, s5, s6, s7, s8, s9, s10⟩
                go_simp
                with_reducible rfl
               rotate_left
               ·simp only [Act.put, sqA, sqB, sqC, i64_w, i32_w]
                rfl
               refine tk 12 34 (bq 34 32767) ?_ rfl rfl (take_ofW HT_.out HW_.out (by kernel_rfl)) (fun _ _ _ h => h) (by rfl) ?_ hHeld ?_ ?_ ?_
               rotate_left
               ·rintro w' ⟨s0, s1, s2, s3, s4, s5, s6, s7, s8, s9, s10⟩
                go_simp
                with_reducible rfl
               rotate_left
               ·simp only [Act.put, sqA, sqB, sqC, i64_w, i32_w]
                rfl
               refine pu 15 37 (bq 34 65535) ?_ rfl rfl (any_of HT_.out (by kernel_rfl)) (fun _ _ _ h => h) (by rfl) ?_ ?_ ?_ ?_
               rotate_left
               ·intro w'; go_simp; with_reducible rfl
               rotate_left
               ·simp only [Act.put, sqA, sqB, sqC, i64_w, i32_w]
                rfl
               refine pu 16 38 (bq 34 131071) ?_ rfl rfl (any_of HT_.out (by kernel_rfl)) (fun _ _ _ h => h) (by rfl) ?_ ?_ ?_ ?_
               rotate_left
               ·intro w'; go_simp; with_reducible rfl
               rotate_left
               ·simp only [Act.put, sqA, sqB, sqC, i64_w, i32_w]
                rfl
               refine pu 17 39 (bq 34 262143) ?_ rfl rfl (any_of HT_.out (by kernel_rfl)) (fun _ _ _ h => h) (by rfl) ?_ ?_ ?_ ?_
               rotate_left
               ·intro w'; go_simp; with_reducible rfl
               rotate_left
               ·simp only [Act.put, sqA, sqB, sqC, i64_w, i32_w]
                rfl
               refine tk 18 40 (bq 34 524287) ?_ rfl rfl (take_ofW HT_.out HW_.out (by kernel_rfl)) (fun _ _ _ h => h) (by rfl) ?_ hHeld ?_ ?_ ?_
               rotate_left
               ·rintro w' ⟨s0, s1, s2, s3, s4, s5, s6, s7, s8, s9, s10⟩
                go_simp
                with_reducible rfl
               rotate_left
               ·simp only [Act.put, sqA, sqB, sqC, i64_w, i32_w]
                rfl
               refine pu 19 41 (bq 34 1048575) ?_ rfl rfl (any_of HT_.out (by kernel_rfl)) (fun _ _ _ h => h) (by rfl) ?_ ?_ ?_ ?_
               rotate_left
               ·intro w'; go_simp; with_reducible rfl
               rotate_left
               ·simp only [Act.put, sqA, sqB, sqC, i64_w, i32_w]
                rfl
               refine pu 20 42 (bq 34 2097151) ?_ rfl rfl (any_of HT_.out (by kernel_rfl)) (fun _ _ _ h => h) (by rfl) ?_ ?_ ?_ ?_
               rotate_left
               ·intro w'; go_simp; with_reducible rfl
               rotate_left
               ·simp only [Act.put, sqA, sqB, sqC, i64_w, i32_w]
                rfl
               refine pu 21 43 (bq 34 4194303) ?_ rfl rfl (any_of HT_.out (by kernel_rfl)) (fun _ _ _ h => h) (by rfl) ?_ ?_ ?_ ?_
               rotate_left
               ·intro w'; go_simp; with_reducible rfl
               rotate_left
               ·simp only [Act.put, sqA, sqB, sqC, i64_w, i32_w]
                rfl
               refine pu 23 45 (bq 34 12582911) ?_ rfl rfl (any_of HT_.out (by kernel_rfl)) (fun _ _ _ h => h) (by rfl) ?_ ?_ ?_ ?_
               rotate_left
               ·intro w'; go_simp; with_reducible rfl
               rotate_left
               ·simp only [Act.put, sqA, sqB, sqC, i64_w, i32_w]
                rfl
               refine pu 25 47 (bq 34 46137343) ?_ rfl rfl (any_of HT_.out (by kernel_rfl)) (fun _ _ _ h => h) (by rfl) ?_ ?_ ?_ ?_
               rotate_left
               ·intro w'; go_simp; with_reducible rfl
               rotate_left
               ·simp only [Act.put, sqA, sqB, sqC, i64_w, i32_w]
                rfl
               refine pu 26 48 (bq 34 113246207) ?_ rfl rfl (any_of HT_.out (by kernel_rfl)) (fun _ _ _ h => h) (by rfl) ?_ ?_ ?_ ?_
               rotate_left
               ·intro w'; go_simp; with_reducible rfl
               rotate_left
               ·simp only [Act.put, sqA, sqB, sqC, i64_w, i32_w]
                rfl
               refine tk 22 44 (bq 34 117440511) ?_ rfl rfl (take_ofW HT_.out HW_.out (by kernel_rfl)) (fun _ _ _ h => h) (by rfl) ?_ hHeld ?_ ?_ ?_
               rotate_left
               ·rintro w' ⟨s0, s1, s2, s3, s4, s5, s6, s7, s8, s9, s10⟩
                go_simp
                with_reducible rfl
               rotate_left
               ·simp only [Act.put, sqA, sqB, sqC, i64_w, i32_w]
                rfl
               refine tk 24 46 (bq 34 134217727) ?_ rfl rfl (take_ofW HT_.out HW_.out (by kernel_rfl)) (fun _ _ _ h => h) (by rfl) ?_ hHeld ?_ ?_ ?_
               rotate_left
               ·rintro w' ⟨s0, s1, s2, s3, s4, s5, s6, s7, s8, s9, s10⟩
                go_simp
                with_reducible rfl
               rotate_left
               ·simp only [Act.put, sqA, sqB, sqC, i64_w, i32_w]
                rfl
               refine pu 27 49 (bq 34 268435455) ?_ rfl rfl (any_of HT_.out (by kernel_rfl)) (fun _ _ _ h => h) (by rfl) ?_ ?_ ?_ ?_
               rotate_left
               ·intro w'; go_simp; with_reducible rfl
               rotate_left
               ·simp only [Act.put, sqA, sqB, sqC, i64_w, i32_w]
                rfl
               refine pu 28 50 (bq 34 536870911) ?_ rfl rfl (any_of HT_.out (by kernel_rfl)) (fun _ _ _ h => h) (by rfl) ?_ ?_ ?_ ?_
               rotate_left
               ·intro w'; go_simp; with_reducible rfl
               rotate_left
               ·simp only [Act.put, sqA, sqB, sqC, i64_w, i32_w]
                rfl
               refine tk 29 51 (bq 34 1073741823) ?_ rfl rfl (take_ofW HT_.out HW_.out (by kernel_rfl)) (fun _ _ _ h => h) (by rfl) ?_ hHeld ?_ ?_ ?_
               rotate_left
               ·rintro w' ⟨s0, s1, s2, s3, s4, s5, s6, s7, s8, s9, s10⟩
                go_simp
                with_reducible rfl
               rotate_left
               ·simp only [Act.put, sqA, sqB, sqC, i64_w, i32_w]
                rfl
               refine pu 30 52 (bq 34 2147483647) ?_ rfl rfl (any_of HT_.out (by kernel_rfl)) (fun _ _ _ h => h) (by rfl) ?_ ?_ ?_ ?_
               rotate_left
               ·intro w'; go_simp; with_reducible rfl
               rotate_left
               ·simp only [Act.put, sqA, sqB, sqC, i64_w, i32_w]
                rfl
               refine pu 31 53 (bq 34 4294967295) ?_ rfl rfl (any_of HT_.out (by kernel_rfl)) (fun _ _ _ h => h) (by rfl) ?_ ?_ ?_ ?_
               rotate_left
               ·intro w'; go_simp; with_reducible rfl
               rotate_left
               ·simp only [Act.put, sqA, sqB, sqC, i64_w, i32_w]
                rfl
               refine pu 32 54 (bq 34 8589934591) ?_ rfl rfl (any_of HT_.out (by kernel_rfl)) (fun _ _ _ h => h) (by rfl) ?_ ?_ ?_ ?_
               rotate_left
               ·intro w'; go_simp; with_reducible rfl
               rotate_left
               ·simp only [Act.put, sqA, sqB, sqC, i64_w, i32_w]
                rfl
               refine pu 33 55 (bq 34 17179869183) ?_ rfl rfl (any_of HT_.out (by kernel_rfl)) (fun _ _ _ h => h) (by rfl) ?_ ?_ ?_ ?_
               rotate_left
               ·intro w'; go_simp; with_reducible rfl
               rotate_left
               ·simp only [Act.put, sqA, sqB, sqC, i64_w, i32_w]
                rfl
               refine done_ (done_of HT_.out (by kernel_rfl)) ?_
               try go_wp2
               go_ret
               exact ⟨by first | rfl | (simp [errW_none, errW_some] <;> rfl) | (simp only [← hji15]; first | rfl | (simp [errW_none, errW_some] <;> rfl)) | (simp [*, errW_none, errW_some] <;> rfl), by repeat (first | (with_reducible first | exact HB.out | apply below_alloc | apply pw_below_drewN | apply below_drew1 | refine below_set ?_ GE268.out | refine below_set ?_ GE270.out) | exact HB.out)⟩
              ·rw [if_neg c24] at H
               have c24b0 : (((rd_T108 l0_1 x17_2).f1) == ((rd_T108 l0_1 (ji15)).f1)) = false := beq_eq_false_iff_ne.mpr c24
               have c24b1 : (((rd_T108 l0_1 x17_2).f1) != ((rd_T108 l0_1 (ji15)).f1)) = true := bne_iff_ne.mpr c24
               by_cases c30 : x3_2.length < 8796093022208
               ·rw [if_pos c30] at H
                have LMc30 := Aside0.mk c30
                clear c30
                obtain ⟨y274, hy274⟩ : ∃ y_ : List (S35), y_ = (x3_2 ++ [(⟨(rd_T108 l0_1 x17_2).f0.f0, (rd_T108 l0_1 x17_2).f0.f1⟩ : S35)]) := ⟨_, rfl⟩
                replace H : (chart_May.l0 k2 y274 l0_1 (l0_1.length : Int) (wrap64 (x17_2 + 1)) a0_0 l0_1) = some r := by first | (rw [hy274]; with_reducible exact H) | (have H2_ := (Option.bind_some _ _).symm.trans H; rw [hy274]; with_reducible exact H2_) | (have H2_ := (Option.bind_some _ _).symm.trans H; with_reducible exact H2_) | with_reducible exact H | (rw [hy274]; exact H) | exact H
                have Ny274 := Aside0.mk hy274
                clear hy274
                have H' := Aside0.mk H
                clear H
                have p269 : 0 ≤ (x17_2 : Int) := of_decide_eq_true (by first | (with_reducible assumption) | assumption)
                have q269 : x17_2 < (l0_1.length : Int) := of_decide_eq_true (by first | (with_reducible assumption) | assumption)
                obtain ⟨ad269, e269, hx269_0, hx269_1, hx269_2⟩ := at_T108 HR0_1.out x17_2 p269 q269
                cases e269
                replace hx269_0 := (HB.out.cell (World.block_lt_of_cell? w _ hx269_0)).trans hx269_0
                replace hx269_1 := (HB.out.cell (World.block_lt_of_cell? w _ hx269_1)).trans hx269_1
                replace hx269_2 := (HB.out.cell (World.block_lt_of_cell? w _ hx269_2)).trans hx269_2
                replace p269 := eq_true p269
                replace q269 := eq_true q269
                try go_wp2_with (first | ((with_reducible refine gate_dst (N := 5) rfl ?_); refine box_event ?hg (N := 5) ?hd (cs := #[.int .i64 0, .int .i64 0, .int .i64 0]) (t := 108) ?hr ?_; (case hd => rfl); (case hg => rfl); (case hr => first | (go_simp; done) | (go_simp; rfl)); intro gb270 hg w31 hbox hb; have n0_ := Aside0.mk (Kd.R_below (by (with_reducible repeat (first | apply Kd.R_alloc | apply Kd.R_drewN | apply Kd.R_drew)); exact HO_3.out) hb); have n1_ := Aside0.mk (blk_below (g := gb268) (o := .cells #[.int .i64 a0_0, .slice (some ad269) l0_1.length c0_1] 45 (0, 0)) (by (with_reducible repeat (first | refine blk_drewN ?_ _ | refine blk_drew ?_ | refine blk_alloc ?_ _)); exact BK268.out) hb); have n2_ := Aside0.mk (below_step (by repeat (first | (with_reducible first | exact HB.out | apply below_alloc | apply pw_below_drewN | apply below_drew1 | refine below_set ?_ GE268.out) | exact HB.out)) hb); have n3_ := Aside0.mk (hbox); have n4_ := Aside0.mk ((by rw [hg]; exact (below_size (by repeat (first | (with_reducible first | exact HB.out | apply below_alloc | apply pw_below_drewN | apply below_drew1 | refine below_set ?_ GE268.out) | exact HB.out))) : w.heap.size ≤ gb270)); have n5_ := Aside0.mk ((by rw [hg]; exact (below_size (by repeat (first | (with_reducible first | exact HB.out | apply below_alloc | apply pw_below_drewN | apply below_drew1 | refine below_set ?_ GE268.out) | exact HB.out))) : w.heap.size ≤ gb270)); have n6_ := Aside0.mk ((by rw [hg]; exact Nat.ne_of_lt (blk_lt (g := gb268) (o := .cells #[.int .i64 a0_0, .slice (some ad269) l0_1.length c0_1] 45 (0, 0)) (by (with_reducible repeat (first | refine blk_drewN ?_ _ | refine blk_drew ?_ | refine blk_alloc ?_ _)); exact BK268.out)) : gb268 ≠ gb270)); have n7_ := Aside0.mk ((by rw [hg]; exact Nat.ne_of_gt (blk_lt (g := gb268) (o := .cells #[.int .i64 a0_0, .slice (some ad269) l0_1.length c0_1] 45 (0, 0)) (by (with_reducible repeat (first | refine blk_drewN ?_ _ | refine blk_drew ?_ | refine blk_alloc ?_ _)); exact BK268.out)) : gb270 ≠ gb268)); clear HO_3; clear BK268; clear HB; have HO_3 := n0_; have BK268 := n1_; have HB := n2_; have BK270 := n3_; have GW270 := n4_; have GE270 := n5_; have NB268_270 := n6_; have NB270_268 := n7_; clear n0_ n1_ n2_ n3_ n4_ n5_ n6_ n7_; clear hb hbox hg; have hnb32 := NB270_268.out; have hnc32 := NB268_270.out; have hcz33_0 : w31.cell? ⟨gb270, 0, none⟩ = some (.int .i64 0) := (blk_cell BK270.out 0).trans rfl; have hcz33_1 : w31.cell? ⟨gb270, 1, none⟩ = some (.int .i64 0) := (blk_cell BK270.out 1).trans rfl; have hcz33_2 : w31.cell? ⟨gb270, 2, none⟩ = some (.int .i64 0) := (blk_cell BK270.out 2).trans rfl; have hfz33_0 := blk_frozen BK270.out 0; have hfz33_1 := blk_frozen BK270.out 1; have hfz33_2 := blk_frozen BK270.out 2))
                have n0_ : Aside0 (Kd.R k35 35 (((w31.setCell ⟨gb270, 0, none⟩ (.int .i64 ((rd_T108 l0_1 x17_2).f0.f0))).setCell ⟨gb270, 1, none⟩ (.int .i64 ((rd_T108 l0_1 x17_2).f0.f1))).setCell ⟨gb270, 2, none⟩ (.int .i64 ((rd_T108 l0_1 x17_2).f1))) w.heap.size (fun _ => True) u3 x3_2) := ⟨by (with_reducible repeat (first | apply Kd.R_alloc | apply Kd.R_drewN | apply Kd.R_drew)); exact Kd.R_mono (Kd.R_far (p := ⟨gb270, 2, none⟩) (Kd.R_far (p := ⟨gb270, 1, none⟩) (Kd.R_far (p := ⟨gb270, 0, none⟩) (Kd.R_types HO_3.out BK270.out (by decide)) (fun _ hk => hk.2) (.int .i64 ((rd_T108 l0_1 x17_2).f0.f0))) (fun _ hk => hk.2) (.int .i64 ((rd_T108 l0_1 x17_2).f0.f1))) (fun _ hk => hk.2) (.int .i64 ((rd_T108 l0_1 x17_2).f1))) (fun _ hk => trivial)⟩
                have n1_ : Aside0 ((((w31.setCell ⟨gb270, 0, none⟩ (.int .i64 ((rd_T108 l0_1 x17_2).f0.f0))).setCell ⟨gb270, 1, none⟩ (.int .i64 ((rd_T108 l0_1 x17_2).f0.f1))).setCell ⟨gb270, 2, none⟩ (.int .i64 ((rd_T108 l0_1 x17_2).f1))).heap[gb268]? = some (.cells #[.int .i64 a0_0, .slice (some ad269) l0_1.length c0_1] 45 (0, 0))) := ⟨by (with_reducible repeat (first | refine blk_drewN ?_ _ | refine blk_drew ?_ | refine blk_alloc ?_ _)); refine blk_far ?_ NB268_270.out _; (with_reducible repeat (first | refine blk_drewN ?_ _ | refine blk_drew ?_ | refine blk_alloc ?_ _)); refine blk_far ?_ NB268_270.out _; (with_reducible repeat (first | refine blk_drewN ?_ _ | refine blk_drew ?_ | refine blk_alloc ?_ _)); refine blk_far ?_ NB268_270.out _; (with_reducible repeat (first | refine blk_drewN ?_ _ | refine blk_drew ?_ | refine blk_alloc ?_ _)); exact BK268.out⟩
                have n2_ : Aside0 ((((w31.setCell ⟨gb270, 0, none⟩ (.int .i64 ((rd_T108 l0_1 x17_2).f0.f0))).setCell ⟨gb270, 1, none⟩ (.int .i64 ((rd_T108 l0_1 x17_2).f0.f1))).setCell ⟨gb270, 2, none⟩ (.int .i64 ((rd_T108 l0_1 x17_2).f1))).heap[gb270]? = some (.cells #[.int .i64 ((rd_T108 l0_1 x17_2).f0.f0), .int .i64 ((rd_T108 l0_1 x17_2).f0.f1), .int .i64 ((rd_T108 l0_1 x17_2).f1)] 108 (0, 0))) := ⟨by (with_reducible repeat (first | refine blk_drewN ?_ _ | refine blk_drew ?_ | refine blk_alloc ?_ _)); refine blk_put (cs := #[.int .i64 ((rd_T108 l0_1 x17_2).f0.f0), .int .i64 ((rd_T108 l0_1 x17_2).f0.f1), .int .i64 0]) ?_ 2 _ rfl; (with_reducible repeat (first | refine blk_drewN ?_ _ | refine blk_drew ?_ | refine blk_alloc ?_ _)); refine blk_put (cs := #[.int .i64 ((rd_T108 l0_1 x17_2).f0.f0), .int .i64 0, .int .i64 0]) ?_ 1 _ rfl; (with_reducible repeat (first | refine blk_drewN ?_ _ | refine blk_drew ?_ | refine blk_alloc ?_ _)); refine blk_put (cs := #[.int .i64 0, .int .i64 0, .int .i64 0]) ?_ 0 _ rfl; (with_reducible repeat (first | refine blk_drewN ?_ _ | refine blk_drew ?_ | refine blk_alloc ?_ _)); exact BK270.out⟩
                have n3_ : Aside0 (Below w.heap.size w (((w31.setCell ⟨gb270, 0, none⟩ (.int .i64 ((rd_T108 l0_1 x17_2).f0.f0))).setCell ⟨gb270, 1, none⟩ (.int .i64 ((rd_T108 l0_1 x17_2).f0.f1))).setCell ⟨gb270, 2, none⟩ (.int .i64 ((rd_T108 l0_1 x17_2).f1)))) := ⟨by repeat (first | (with_reducible first | exact HB.out | apply below_alloc | apply pw_below_drewN | apply below_drew1 | refine below_set ?_ GE268.out | refine below_set ?_ GE270.out) | exact HB.out)⟩
                (try clear HO_3)
                (try clear BK268)
                (try clear BK270)
                (try clear HB)
                generalize (((w31.setCell ⟨gb270, 0, none⟩ (.int .i64 ((rd_T108 l0_1 x17_2).f0.f0))).setCell ⟨gb270, 1, none⟩ (.int .i64 ((rd_T108 l0_1 x17_2).f0.f1))).setCell ⟨gb270, 2, none⟩ (.int .i64 ((rd_T108 l0_1 x17_2).f1))) = w34 at n0_ n1_ n2_ n3_ ⊢
                have HO_3 := n0_
                have BK268 := n1_
                have BK270 := n2_
                have HB := n3_
                clear n0_ n1_ n2_ n3_
                have n0_ := Aside0.mk (Kd.R_drew HO_3.out)
                have n1_ := Aside0.mk (blk_drew BK268.out)
                have n2_ := Aside0.mk (blk_drew BK270.out)
                have n3_ := Aside0.mk (below_drew1 HB.out)
                clear HO_3
                clear BK268
                clear BK270
                clear HB
                have HO_3 := n0_
                have BK268 := n1_
                have BK270 := n2_
                have HB := n3_
                clear n0_ n1_ n2_ n3_
                have p272 : 0 ≤ ((ji15) : Int) := of_decide_eq_true (by first | (with_reducible assumption) | assumption)
                have q272 : (ji15) < (l0_1.length : Int) := of_decide_eq_true (by first | (with_reducible assumption) | assumption)
                obtain ⟨ad272, e272, hx272_0, hx272_1, hx272_2⟩ := at_T108 HR0_1.out (ji15) p272 q272
                have hw272_2 := hx272_2
                have hw272_1 := hx272_1
                have hw272_0 := hx272_0
                obtain rfl : ad269 = ad272 := (by injection e272)
                replace hx272_0 := (HB.out.cell (World.block_lt_of_cell? w _ hx272_0)).trans hx272_0
                replace hx272_1 := (HB.out.cell (World.block_lt_of_cell? w _ hx272_1)).trans hx272_1
                replace hx272_2 := (HB.out.cell (World.block_lt_of_cell? w _ hx272_2)).trans hx272_2
                replace p272 := eq_true p272
                replace q272 := eq_true q272
                have p273 : 0 ≤ ((ji15) : Int) := of_decide_eq_true (by first | (with_reducible assumption) | assumption)
                have q273 : (ji15) < (l0_1.length : Int) := of_decide_eq_true (by first | (with_reducible assumption) | assumption)
                obtain ⟨ad273, e273, hx273_0, hx273_1, hx273_2⟩ := at_T108 HR0_1.out (ji15) p273 q273
                have hw273_2 := hx273_2
                have hw273_1 := hx273_1
                have hw273_0 := hx273_0
                obtain rfl : ad269 = ad273 := (by injection e273)
                replace hx273_0 := (HB.out.cell (World.block_lt_of_cell? w _ hx273_0)).trans hx273_0
                replace hx273_1 := (HB.out.cell (World.block_lt_of_cell? w _ hx273_1)).trans hx273_1
                replace hx273_2 := (HB.out.cell (World.block_lt_of_cell? w _ hx273_2)).trans hx273_2
                replace p273 := eq_true p273
                replace q273 := eq_true q273
                refine start_ (n := 34) (S := fun w' => w'.cell? ⟨gb270, 0, none⟩ = some (.int .i64 ((rd_T108 l0_1 x17_2).f0.f0)) ∧ w'.cell? ⟨gb270, 1, none⟩ = some (.int .i64 ((rd_T108 l0_1 x17_2).f0.f1)) ∧ w'.cell? ⟨gb270, 2, none⟩ = some (.int .i64 ((rd_T108 l0_1 x17_2).f1)) ∧ w'.cell? ⟨gb268, 0, none⟩ = some (.int .i64 a0_0) ∧ w'.cell? ⟨gb268, 1, none⟩ = some (.slice (some ad269) l0_1.length c0_1) ∧ w'.cell? (ad269.add (((ji15)).toNat * 3)) = some (.int .i64 ((rd_T108 l0_1 (ji15)).f0.f0)) ∧ w'.cell? ⟨(ad269.add (((ji15)).toNat * 3)).block, (ad269.add (((ji15)).toNat * 3)).off + 1, none⟩ = some (.int .i64 ((rd_T108 l0_1 (ji15)).f0.f1)) ∧ w'.cell? ⟨(ad269.add (((ji15)).toNat * 3)).block, (ad269.add (((ji15)).toNat * 3)).off + 2, none⟩ = some (.int .i64 ((rd_T108 l0_1 (ji15)).f1)) ∧ w'.cell? (ad269.add (((ji15)).toNat * 3)) = some (.int .i64 ((rd_T108 l0_1 (ji15)).f0.f0)) ∧ w'.cell? ⟨(ad269.add (((ji15)).toNat * 3)).block, (ad269.add (((ji15)).toNat * 3)).off + 1, none⟩ = some (.int .i64 ((rd_T108 l0_1 (ji15)).f0.f1)) ∧ w'.cell? ⟨(ad269.add (((ji15)).toNat * 3)).block, (ad269.add (((ji15)).toNat * 3)).off + 2, none⟩ = some (.int .i64 ((rd_T108 l0_1 (ji15)).f1))) (ds := []) (bq 34 0) (by kernel_rfl) rfl rfl ⟨(blk_cell BK270.out 0).trans rfl, (blk_cell BK270.out 1).trans rfl, (blk_cell BK270.out 2).trans rfl, (blk_cell BK268.out 0).trans rfl, (blk_cell BK268.out 1).trans rfl, ((HB.out.cell (World.block_lt_of_cell? w _ hw272_0)).trans hw272_0), ((HB.out.cell (World.block_lt_of_cell? w _ hw272_1)).trans hw272_1), ((HB.out.cell (World.block_lt_of_cell? w _ hw272_2)).trans hw272_2), ((HB.out.cell (World.block_lt_of_cell? w _ hw273_0)).trans hw273_0), ((HB.out.cell (World.block_lt_of_cell? w _ hw273_1)).trans hw273_1), ((HB.out.cell (World.block_lt_of_cell? w _ hw273_2)).trans hw273_2)⟩ (fun hHeld => ?_); refine with_tabW chart_May.tab7 chart_May.bits7 (fun HT_ HW_ => ?_)
                generalize w34.drew = w35 at HO_3 BK268 BK270 HB hx272_0 hx272_1 hx272_2 hx273_0 hx273_1 hx273_2 hHeld ⊢
                refine pu 0 22 (bq 34 1) ?_ rfl rfl (any_of HT_.out (by kernel_rfl)) (fun _ _ _ h => h) (by rfl) ?_ ?_ ?_ ?_
                rotate_left
                ·intro w'; go_simp; with_reducible rfl
                rotate_left
                ·simp only [Act.put, sqA, sqB, sqC, i64_w, i32_w]
                 rfl
                refine tk 1 23 (bq 34 3) ?_ rfl rfl (take_ofW HT_.out HW_.out (by kernel_rfl)) (fun _ _ _ h => h) (by rfl) ?_ hHeld ?_ ?_ ?_
                rotate_left
                ·rintro w' ⟨s0, s1, s2, s3, s4, s5, s6, s7, s8, s9, s10⟩
                 go_simp
                 with_reducible rfl
                rotate_left
                ·simp only [Act.put, sqA, sqB, sqC, i64_w, i32_w]
                 rfl
                refine one_ (i := 2) (N := some 24) (bq 34 7) rfl rfl (one_of HT_.out (by kernel_rfl)) (by decide) (fun K hK => ?_)
                refine goes_ Try.func62 (by kernel_rfl) rfl #[.int .i64 ((rd_T108 l0_1 x17_2).f1)] (by rfl) rfl rfl (by (try simp only [List.map_toArray, List.map_cons, List.map_nil]); first | done | rfl | (simp only [List.length_drop, List.length_take]; rfl)) ?_
                with_reducible refine (chart_shard.calls ((rd_T108 l0_1 x17_2).f1) true _ A12.out).mono ?_
                rintro e w' ⟨rfl, ⟨nd, rfl⟩⟩
                refine ⟨_, rfl, ?_⟩
                refine hK.out _ _ ⟨(blk_cell BK270.out 0).trans rfl, (blk_cell BK270.out 1).trans rfl, (blk_cell BK270.out 2).trans rfl, (blk_cell BK268.out 0).trans rfl, (blk_cell BK268.out 1).trans rfl, ((HB.out.cell (World.block_lt_of_cell? w _ hw272_0)).trans hw272_0), ((HB.out.cell (World.block_lt_of_cell? w _ hw272_1)).trans hw272_1), ((HB.out.cell (World.block_lt_of_cell? w _ hw272_2)).trans hw272_2), ((HB.out.cell (World.block_lt_of_cell? w _ hw273_0)).trans hw273_0), ((HB.out.cell (World.block_lt_of_cell? w _ hw273_1)).trans hw273_1), ((HB.out.cell (World.block_lt_of_cell? w _ hw273_2)).trans hw273_2)⟩ (fun hHeld => ?_)
                clear hK K
                refine norm_ (a' := ?_) ?_ ?_
                rotate_left
                ·show Act.put _ (some 24) _ = _
                 simp only [Act.put, sqA, sqB, sqC, i64_w, i32_w]
                 rfl
                refine pu 3 25 (bq 34 15) ?_ rfl rfl (any_of HT_.out (by kernel_rfl)) (fun _ _ _ h => h) (by rfl) ?_ ?_ ?_ ?_
                rotate_left
                ·intro w'; go_simp; with_reducible rfl
                rotate_left
                ·simp only [Act.put, sqA, sqB, sqC, i64_w, i32_w]
                 rfl
                refine pu 4 26 (bq 34 31) ?_ rfl rfl (any_of HT_.out (by kernel_rfl)) (fun _ _ _ h => h) (by rfl) ?_ ?_ ?_ ?_
                rotate_left
                ·intro w'; go_simp; with_reducible rfl
                rotate_left
                ·simp only [Act.put, sqA, sqB, sqC, i64_w, i32_w]
                 rfl
                refine pu 5 27 (bq 34 63) ?_ rfl rfl (any_of HT_.out (by kernel_rfl)) (fun _ _ _ h => h) (by rfl) ?_ ?_ ?_ ?_
                rotate_left
                ·intro w'; go_simp; with_reducible rfl
                rotate_left
                ·simp only [Act.put, sqA, sqB, sqC, i64_w, i32_w]
                 rfl
                refine pu 6 28 (bq 34 127) ?_ rfl rfl (any_of HT_.out (by kernel_rfl)) (fun _ _ _ h => h) (by rfl) ?_ ?_ ?_ ?_
                rotate_left
                ·intro w'; go_simp; with_reducible rfl
                rotate_left
                ·simp only [Act.put, sqA, sqB, sqC, i64_w, i32_w]
                 rfl
                refine pu 7 29 (bq 34 255) ?_ rfl rfl (any_of HT_.out (by kernel_rfl)) (fun _ _ _ h => h) (by rfl) ?_ ?_ ?_ ?_
                rotate_left
                ·intro w'; go_simp; with_reducible rfl
                rotate_left
                ·simp only [Act.put, sqA, sqB, sqC, i64_w, i32_w]
                 rfl
                refine pu 8 30 (bq 34 511) ?_ rfl rfl (any_of HT_.out (by kernel_rfl)) (fun _ _ _ h => h) (by rfl) ?_ ?_ ?_ ?_
                rotate_left
                ·intro w'; go_simp; with_reducible rfl
                rotate_left
                ·simp only [Act.put, sqA, sqB, sqC, i64_w, i32_w]
                 rfl
                refine pu 9 31 (bq 34 1023) ?_ rfl rfl (any_of HT_.out (by kernel_rfl)) (fun _ _ _ h => h) (by rfl) ?_ ?_ ?_ ?_
                rotate_left
                ·intro w'; go_simp; with_reducible rfl
                rotate_left
                ·simp only [Act.put, sqA, sqB, sqC, i64_w, i32_w]
                 rfl
                refine pu 11 33 (bq 34 3071) ?_ rfl rfl (any_of HT_.out (by kernel_rfl)) (fun _ _ _ h => h) (by rfl) ?_ ?_ ?_ ?_
                rotate_left
                ·intro w'; go_simp; with_reducible rfl
                rotate_left
                ·simp only [Act.put, sqA, sqB, sqC, i64_w, i32_w]
                 rfl
                refine pu 13 35 (bq 34 11263) ?_ rfl rfl (any_of HT_.out (by kernel_rfl)) (fun _ _ _ h => h) (by rfl) ?_ ?_ ?_ ?_
                rotate_left
                ·intro w'; go_simp; with_reducible rfl
                rotate_left
                ·simp only [Act.put, sqA, sqB, sqC, i64_w, i32_w]
                 rfl
                refine pu 14 36 (bq 34 27647) ?_ rfl rfl (any_of HT_.out (by kernel_rfl)) (fun _ _ _ h => h) (by rfl) ?_ ?_ ?_ ?_
                rotate_left
                ·intro w'; go_simp; with_reducible rfl
                rotate_left
                ·simp only [Act.put, sqA, sqB, sqC, i64_w, i32_w]
                 rfl
                refine tk 10 32 (bq 34 28671) ?_ rfl rfl (take_ofW HT_.out HW_.out (by kernel_rfl)) (fun _ _ _ h => h) (by rfl) ?_ hHeld ?_ ?_ ?_
                rotate_left
                ·rintro w' ⟨s0, s1, s2, s3, s4, s5, s6, s7, s8, s9, s10⟩
                 go_simp
                 with_reducible rfl
                rotate_left
                ·simp only [Act.put, sqA, sqB, sqC, i64_w, i32_w]
                 rfl
                refine tk 12 34 (bq 34 32767) ?_ rfl rfl (take_ofW HT_.out HW_.out (by kernel_rfl)) (fun _ _ _ h => h) (by rfl) ?_ hHeld ?_ ?_ ?_
                rotate_left
                ·rintro w' ⟨s0, s1, s2, s3, s4, s5, s6, s7, s8, s9, s10⟩
                 go_simp
                 with_reducible rfl
                rotate_left
                ·simp only [Act.put, sqA, sqB, sqC, i64_w, i32_w]
                 rfl
                refine pu 15 37 (bq 34 65535) ?_ rfl rfl (any_of HT_.out (by kernel_rfl)) (fun _ _ _ h => h) (by rfl) ?_ ?_ ?_ ?_
                rotate_left
                ·intro w'; go_simp; with_reducible rfl
                rotate_left
                ·simp only [Act.put, sqA, sqB, sqC, i64_w, i32_w]
                 rfl
                refine pu 16 38 (bq 34 131071) ?_ rfl rfl (any_of HT_.out (by kernel_rfl)) (fun _ _ _ h => h) (by rfl) ?_ ?_ ?_ ?_
                rotate_left
                ·intro w'; go_simp; with_reducible rfl
                rotate_left
                ·simp only [Act.put, sqA, sqB, sqC, i64_w, i32_w]
                 rfl
                refine pu 17 39 (bq 34 262143) ?_ rfl rfl (any_of HT_.out (by kernel_rfl)) (fun _ _ _ h => h) (by rfl) ?_ ?_ ?_ ?_
                rotate_left
                ·intro w'; go_simp; with_reducible rfl
                rotate_left
                ·simp only [Act.put, sqA, sqB, sqC, i64_w, i32_w]
                 rfl
                refine tk 18 40 (bq 34 524287) ?_ rfl rfl (take_ofW HT_.out HW_.out (by kernel_rfl)) (fun _ _ _ h => h) (by rfl) ?_ hHeld ?_ ?_ ?_
                rotate_left
                ·rintro w' ⟨s0, s1, s2, s3, s4, s5, s6, s7, s8, s9, s10⟩
                 go_simp
                 with_reducible rfl
                rotate_left
                ·simp only [Act.put, sqA, sqB, sqC, i64_w, i32_w]
                 rfl
                refine pu 19 41 (bq 34 1048575) ?_ rfl rfl (any_of HT_.out (by kernel_rfl)) (fun _ _ _ h => h) (by rfl) ?_ ?_ ?_ ?_
                rotate_left
                ·intro w'; go_simp; with_reducible rfl
                rotate_left
                ·simp only [Act.put, sqA, sqB, sqC, i64_w, i32_w]
                 rfl
                refine pu 20 42 (bq 34 2097151) ?_ rfl rfl (any_of HT_.out (by kernel_rfl)) (fun _ _ _ h => h) (by rfl) ?_ ?_ ?_ ?_
                rotate_left
                ·intro w'; go_simp; with_reducible rfl
                rotate_left
                ·simp only [Act.put, sqA, sqB, sqC, i64_w, i32_w]
                 rfl
                refine pu 21 43 (bq 34 4194303) ?_ rfl rfl (any_of HT_.out (by kernel_rfl)) (fun _ _ _ h => h) (by rfl) ?_ ?_ ?_ ?_
                rotate_left
                ·intro w'; go_simp; with_reducible rfl
                rotate_left
                ·simp only [Act.put, sqA, sqB, sqC, i64_w, i32_w]
                 rfl
                refine pu 23 45 (bq 34 12582911) ?_ rfl rfl (any_of HT_.out (by kernel_rfl)) (fun _ _ _ h => h) (by rfl) ?_ ?_ ?_ ?_
                rotate_left
                ·intro w'; go_simp; with_reducible rfl
                rotate_left
                ·simp only [Act.put, sqA, sqB, sqC, i64_w, i32_w]
                 rfl
                refine pu 25 47 (bq 34 46137343) ?_ rfl rfl (any_of HT_.out (by kernel_rfl)) (fun _ _ _ h => h) (by rfl) ?_ ?_ ?_ ?_
                rotate_left
                ·intro w'; go_simp; with_reducible rfl
                rotate_left
                ·simp only [Act.put, sqA, sqB, sqC, i64_w, i32_w]
                 rfl
                refine pu 26 48 (bq 34 113246207) ?_ rfl rfl (any_of HT_.out (by kernel_rfl)) (fun _ _ _ h => h) (by rfl) ?_ ?_ ?_ ?_
                rotate_left
                ·intro w'; go_simp; with_reducible rfl
                rotate_left
                ·simp only [Act.put, sqA, sqB, sqC, i64_w, i32_w]
                 rfl
                refine tk 22 44 (bq 34 117440511) ?_ rfl rfl (take_ofW HT_.out HW_.out (by kernel_rfl)) (fun _ _ _ h => h) (by rfl) ?_ hHeld ?_ ?_ ?_
                rotate_left
                ·rintro w' ⟨s0, s1, s2, s3, s4, s5, s6, s7, s8, s9, s10⟩
                 go_simp
                 with_reducible rfl
                rotate_left
                ·simp only [Act.put, sqA, sqB, sqC, i64_w, i32_w]
                 rfl
                refine tk 24 46 (bq 34 134217727) ?_ rfl rfl (take_ofW HT_.out HW_.out (by kernel_rfl)) (fun _ _ _ h => h) (by rfl) ?_ hHeld ?_ ?_ ?_
                rotate_left
                ·rintro w' ⟨s0, s1, s2, s3, s4, s5, s6, s7, s8, s9, s10⟩
                 go_simp
                 with_reducible rfl
                rotate_left
                ·simp only [Act.put, sqA, sqB, sqC, i64_w, i32_w]
                 rfl
                refine pu 27 49 (bq 34 268435455) ?_ rfl rfl (any_of HT_.out (by kernel_rfl)) (fun _ _ _ h => h) (by rfl) ?_ ?_ ?_ ?_
                rotate_left
                ·intro w'; go_simp; with_reducible rfl
                rotate_left
                ·simp only [Act.put, sqA, sqB, sqC, i64_w, i32_w]
                 rfl
                refine pu 28 50 (bq 34 536870911) ?_ rfl rfl (any_of HT_.out (by kernel_rfl)) (fun _ _ _ h => h) (by rfl) ?_ ?_ ?_ ?_
                rotate_left
                ·intro w'; go_simp; with_reducible rfl
                rotate_left
                ·simp only [Act.put, sqA, sqB, sqC, i64_w, i32_w]
                 rfl
                refine tk 29 51 (bq 34 1073741823) ?_ rfl rfl (take_ofW HT_.out HW_.out (by kernel_rfl)) (fun _ _ _ h => h) (by rfl) ?_ hHeld ?_ ?_ ?_
                rotate_left
                ·rintro w' ⟨s0, s1, s2, s3, s4, s5, s6, s7, s8, s9, s10⟩
                 go_simp
                 with_reducible rfl
                rotate_left
                ·simp only [Act.put, sqA, sqB, sqC, i64_w, i32_w]
                 rfl
                refine pu 30 52 (bq 34 2147483647) ?_ rfl rfl (any_of HT_.out (by kernel_rfl)) (fun _ _ _ h => h) (by rfl) ?_ ?_ ?_ ?_
                rotate_left
                ·intro w'; go_simp; with_reducible rfl
                rotate_left
                ·simp only [Act.put, sqA, sqB, sqC, i64_w, i32_w]
                 rfl
                refine pu 31 53 (bq 34 4294967295) ?_ rfl rfl (any_of HT_.out (by kernel_rfl)) (fun _ _ _ h => h) (by rfl) ?_ ?_ ?_ ?_
                rotate_left
                ·intro w'; go_simp; with_reducible rfl
                rotate_left
                ·simp only [Act.put, sqA, sqB, sqC, i64_w, i32_w]
                 rfl
                refine pu 32 54 (bq 34 8589934591) ?_ rfl rfl (any_of HT_.out (by kernel_rfl)) (fun _ _ _ h => h) (by rfl) ?_ ?_ ?_ ?_
                rotate_left
                ·intro w'; go_simp; with_reducible rfl
                rotate_left
                ·simp only [Act.put, sqA, sqB, sqC, i64_w, i32_w]
                 rfl
                refine pu 33 55 (bq 34 17179869183) ?_ rfl rfl (any_of HT_.out (by kernel_rfl)) (fun _ _ _ h => h) (by rfl) ?_ ?_ ?_ ?_
                rotate_left
                ·intro w'; go_simp; with_reducible rfl
                rotate_left
                ·simp only [Act.put, sqA, sqB, sqC, i64_w, i32_w]
                 rfl
                refine done_ (done_of HT_.out (by kernel_rfl)) ?_
                have hcz36_0 : w35.cell? ⟨gb270, 0, none⟩ = some (.int .i64 ((rd_T108 l0_1 x17_2).f0.f0)) := (blk_cell BK270.out 0).trans rfl
                have hcz36_1 : w35.cell? ⟨gb270, 1, none⟩ = some (.int .i64 ((rd_T108 l0_1 x17_2).f0.f1)) := (blk_cell BK270.out 1).trans rfl
                have hcz36_2 : w35.cell? ⟨gb270, 2, none⟩ = some (.int .i64 ((rd_T108 l0_1 x17_2).f1)) := (blk_cell BK270.out 2).trans rfl
                have hfz36_0 := blk_frozen BK270.out 0
                have hfz36_1 := blk_frozen BK270.out 1
                have hfz36_2 := blk_frozen BK270.out 2
                try go_wp2_with (first | ((with_reducible refine gate_builtin (b := .append) (xs := #[.tmp 56, .tmp 59]) rfl ?_); at_builtin; refine Kd.R_append k35 (w0 := w) w.heap.size rfl (.tmp 56) (.tmp 59) 40 35 (.agg #[(.int .i64 0), (.int .i64 0)]) 16 rfl Try.underlying40 info35 rfl (by decide) (by omega) u3 x3_2 (⟨(rd_T108 l0_1 x17_2).f0.f0, (rd_T108 l0_1 x17_2).f0.f1⟩ : S35) [.int .i64 ((rd_T108 l0_1 x17_2).f0.f0), .int .i64 ((rd_T108 l0_1 x17_2).f0.f1)] (fun _ => True) (fun _ => False) rfl rfl ?aP (fun _ hk => hk.elim) ?aF ?aO ?aB ?aS ?aL ?_; (case aP => exact k35_mkM _ _ _ (⟨(rd_T108 l0_1 x17_2).f0.f0, (rd_T108 l0_1 x17_2).f0.f1⟩ : S35)); (case aB => exact (by repeat (first | (with_reducible first | exact HB.out | apply below_alloc | apply pw_below_drewN | apply below_drew1 | refine below_set ?_ GE268.out | refine below_set ?_ GE270.out) | exact HB.out))); (case aF => exact (fun _ _ => trivial)); (case aO => exact (by (with_reducible repeat (first | apply Kd.R_alloc | apply Kd.R_drewN | apply Kd.R_drew)); exact HO_3.out)); (case aS => exact (below_size (by repeat (first | (with_reducible first | exact HB.out | apply below_alloc | apply pw_below_drewN | apply below_drew1 | refine below_set ?_ GE268.out | refine below_set ?_ GE270.out) | exact HB.out)))); (case aL => have := LMc30.out; omega); intro v275 w37 ho hb hg hat; rw [← Ny274.out] at ho; have n0_ := Aside0.mk (blk_grown (g := gb268) (o := .cells #[.int .i64 a0_0, .slice (some ad269) l0_1.length c0_1] 45 (0, 0)) (by (with_reducible repeat (first | refine blk_drewN ?_ _ | refine blk_drew ?_ | refine blk_alloc ?_ _)); exact BK268.out) hg (Kd.R_ne HO_3.out BK268.out (by decide))); have n1_ := Aside0.mk (blk_grown (g := gb270) (o := .cells #[.int .i64 ((rd_T108 l0_1 x17_2).f0.f0), .int .i64 ((rd_T108 l0_1 x17_2).f0.f1), .int .i64 ((rd_T108 l0_1 x17_2).f1)] 108 (0, 0)) (by (with_reducible repeat (first | refine blk_drewN ?_ _ | refine blk_drew ?_ | refine blk_alloc ?_ _)); exact BK270.out) hg (Kd.R_ne HO_3.out BK270.out (by decide))); have n2_ := Aside0.mk (hb); have n3_ := Aside0.mk (ho); clear BK268; clear BK270; clear HB; clear HO_3; have BK268 := n0_; have BK270 := n1_; have HB := n2_; have HO276 := n3_; clear n0_ n1_ n2_ n3_; clear ho hb hg hat))
                go_roundg k2
                case measure => have := HJ1.out; have := HK2.out; omega
                case rel => exact ⟨(y274), (wrap64 (x17_2 + 1)), (by first | rfl | (simp; done) | (simp [*]; done)), H', ⟨by have := HJ1.out; have := HK2.out; omega⟩, ⟨by (with_reducible repeat (first | apply Kd.R_alloc | apply Kd.R_drewN | apply Kd.R_drew)); exact HO276.out⟩, ⟨by (with_reducible repeat (first | refine blk_drewN ?_ _ | refine blk_drew ?_ | refine blk_alloc ?_ _)); exact BK268.out⟩, ⟨by repeat (first | (with_reducible first | exact HB.out | apply below_alloc | apply pw_below_drewN | apply below_drew1 | refine below_set ?_ GE268.out | refine below_set ?_ GE270.out) | exact HB.out)⟩⟩
               ·rw [if_neg c30] at H
                exact absurd H (by simp)
            ·rw [if_neg c17] at H
             exact absurd H (by simp)
           ·rw [if_neg c16] at H
            exact absurd H (by simp)
          ·rw [if_neg c14] at H
           have c14b0 : decide (0 < x17_2) = false := decide_eq_false c14
           clear c14
           by_cases c38 : x3_2.length < 8796093022208
           ·rw [if_pos c38] at H
            have LMc38 := Aside0.mk c38
            clear c38
            obtain ⟨y277, hy277⟩ : ∃ y_ : List (S35), y_ = (x3_2 ++ [(⟨(rd_T108 l0_1 x17_2).f0.f0, (rd_T108 l0_1 x17_2).f0.f1⟩ : S35)]) := ⟨_, rfl⟩
            replace H : (chart_May.l0 k2 y277 l0_1 (l0_1.length : Int) (wrap64 (x17_2 + 1)) a0_0 l0_1) = some r := by first | (rw [hy277]; with_reducible exact H) | (have H2_ := (Option.bind_some _ _).symm.trans H; rw [hy277]; with_reducible exact H2_) | (have H2_ := (Option.bind_some _ _).symm.trans H; with_reducible exact H2_) | with_reducible exact H | (rw [hy277]; exact H) | exact H
            have Ny277 := Aside0.mk hy277
            clear hy277
            have H' := Aside0.mk H
            clear H
            have p269 : 0 ≤ (x17_2 : Int) := of_decide_eq_true (by first | (with_reducible assumption) | assumption)
            have q269 : x17_2 < (l0_1.length : Int) := of_decide_eq_true (by first | (with_reducible assumption) | assumption)
            obtain ⟨ad269, e269, hx269_0, hx269_1, hx269_2⟩ := at_T108 HR0_1.out x17_2 p269 q269
            cases e269
            replace hx269_0 := (HB.out.cell (World.block_lt_of_cell? w _ hx269_0)).trans hx269_0
            replace hx269_1 := (HB.out.cell (World.block_lt_of_cell? w _ hx269_1)).trans hx269_1
            replace hx269_2 := (HB.out.cell (World.block_lt_of_cell? w _ hx269_2)).trans hx269_2
            replace p269 := eq_true p269
            replace q269 := eq_true q269
            try go_wp2_with (first | ((with_reducible refine gate_dst (N := 5) rfl ?_); refine box_event ?hg (N := 5) ?hd (cs := #[.int .i64 0, .int .i64 0, .int .i64 0]) (t := 108) ?hr ?_; (case hd => rfl); (case hg => rfl); (case hr => first | (go_simp; done) | (go_simp; rfl)); intro gb270 hg w39 hbox hb; have n0_ := Aside0.mk (Kd.R_below (by (with_reducible repeat (first | apply Kd.R_alloc | apply Kd.R_drewN | apply Kd.R_drew)); exact HO_3.out) hb); have n1_ := Aside0.mk (blk_below (g := gb268) (o := .cells #[.int .i64 a0_0, .slice (some ad269) l0_1.length c0_1] 45 (0, 0)) (by (with_reducible repeat (first | refine blk_drewN ?_ _ | refine blk_drew ?_ | refine blk_alloc ?_ _)); exact BK268.out) hb); have n2_ := Aside0.mk (below_step (by repeat (first | (with_reducible first | exact HB.out | apply below_alloc | apply pw_below_drewN | apply below_drew1 | refine below_set ?_ GE268.out) | exact HB.out)) hb); have n3_ := Aside0.mk (hbox); have n4_ := Aside0.mk ((by rw [hg]; exact (below_size (by repeat (first | (with_reducible first | exact HB.out | apply below_alloc | apply pw_below_drewN | apply below_drew1 | refine below_set ?_ GE268.out) | exact HB.out))) : w.heap.size ≤ gb270)); have n5_ := Aside0.mk ((by rw [hg]; exact (below_size (by repeat (first | (with_reducible first | exact HB.out | apply below_alloc | apply pw_below_drewN | apply below_drew1 | refine below_set ?_ GE268.out) | exact HB.out))) : w.heap.size ≤ gb270)); have n6_ := Aside0.mk ((by rw [hg]; exact Nat.ne_of_lt (blk_lt (g := gb268) (o := .cells #[.int .i64 a0_0, .slice (some ad269) l0_1.length c0_1] 45 (0, 0)) (by (with_reducible repeat (first | refine blk_drewN ?_ _ | refine blk_drew ?_ | refine blk_alloc ?_ _)); exact BK268.out)) : gb268 ≠ gb270)); have n7_ := Aside0.mk ((by rw [hg]; exact Nat.ne_of_gt (blk_lt (g := gb268) (o := .cells #[.int .i64 a0_0, .slice (some ad269) l0_1.length c0_1] 45 (0, 0)) (by (with_reducible repeat (first | refine blk_drewN ?_ _ | refine blk_drew ?_ | refine blk_alloc ?_ _)); exact BK268.out)) : gb270 ≠ gb268)); clear HO_3; clear BK268; clear HB; have HO_3 := n0_; have BK268 := n1_; have HB := n2_; have BK270 := n3_; have GW270 := n4_; have GE270 := n5_; have NB268_270 := n6_; have NB270_268 := n7_; clear n0_ n1_ n2_ n3_ n4_ n5_ n6_ n7_; clear hb hbox hg; have hnb40 := NB270_268.out; have hnc40 := NB268_270.out; have hcz41_0 : w39.cell? ⟨gb270, 0, none⟩ = some (.int .i64 0) := (blk_cell BK270.out 0).trans rfl; have hcz41_1 : w39.cell? ⟨gb270, 1, none⟩ = some (.int .i64 0) := (blk_cell BK270.out 1).trans rfl; have hcz41_2 : w39.cell? ⟨gb270, 2, none⟩ = some (.int .i64 0) := (blk_cell BK270.out 2).trans rfl; have hfz41_0 := blk_frozen BK270.out 0; have hfz41_1 := blk_frozen BK270.out 1; have hfz41_2 := blk_frozen BK270.out 2))
            have n0_ : Aside0 (Kd.R k35 35 (((w39.setCell ⟨gb270, 0, none⟩ (.int .i64 ((rd_T108 l0_1 x17_2).f0.f0))).setCell ⟨gb270, 1, none⟩ (.int .i64 ((rd_T108 l0_1 x17_2).f0.f1))).setCell ⟨gb270, 2, none⟩ (.int .i64 ((rd_T108 l0_1 x17_2).f1))) w.heap.size (fun _ => True) u3 x3_2) := ⟨by (with_reducible repeat (first | apply Kd.R_alloc | apply Kd.R_drewN | apply Kd.R_drew)); exact Kd.R_mono (Kd.R_far (p := ⟨gb270, 2, none⟩) (Kd.R_far (p := ⟨gb270, 1, none⟩) (Kd.R_far (p := ⟨gb270, 0, none⟩) (Kd.R_types HO_3.out BK270.out (by decide)) (fun _ hk => hk.2) (.int .i64 ((rd_T108 l0_1 x17_2).f0.f0))) (fun _ hk => hk.2) (.int .i64 ((rd_T108 l0_1 x17_2).f0.f1))) (fun _ hk => hk.2) (.int .i64 ((rd_T108 l0_1 x17_2).f1))) (fun _ hk => trivial)⟩
            have n1_ : Aside0 ((((w39.setCell ⟨gb270, 0, none⟩ (.int .i64 ((rd_T108 l0_1 x17_2).f0.f0))).setCell ⟨gb270, 1, none⟩ (.int .i64 ((rd_T108 l0_1 x17_2).f0.f1))).setCell ⟨gb270, 2, none⟩ (.int .i64 ((rd_T108 l0_1 x17_2).f1))).heap[gb268]? = some (.cells #[.int .i64 a0_0, .slice (some ad269) l0_1.length c0_1] 45 (0, 0))) := ⟨by (with_reducible repeat (first | refine blk_drewN ?_ _ | refine blk_drew ?_ | refine blk_alloc ?_ _)); refine blk_far ?_ NB268_270.out _; (with_reducible repeat (first | refine blk_drewN ?_ _ | refine blk_drew ?_ | refine blk_alloc ?_ _)); refine blk_far ?_ NB268_270.out _; (with_reducible repeat (first | refine blk_drewN ?_ _ | refine blk_drew ?_ | refine blk_alloc ?_ _)); refine blk_far ?_ NB268_270.out _; (with_reducible repeat (first | refine blk_drewN ?_ _ | refine blk_drew ?_ | refine blk_alloc ?_ _)); exact BK268.out⟩
            have n2_ : Aside0 ((((w39.setCell ⟨gb270, 0, none⟩ (.int .i64 ((rd_T108 l0_1 x17_2).f0.f0))).setCell ⟨gb270, 1, none⟩ (.int .i64 ((rd_T108 l0_1 x17_2).f0.f1))).setCell ⟨gb270, 2, none⟩ (.int .i64 ((rd_T108 l0_1 x17_2).f1))).heap[gb270]? = some (.cells #[.int .i64 ((rd_T108 l0_1 x17_2).f0.f0), .int .i64 ((rd_T108 l0_1 x17_2).f0.f1), .int .i64 ((rd_T108 l0_1 x17_2).f1)] 108 (0, 0))) := ⟨by (with_reducible repeat (first | refine blk_drewN ?_ _ | refine blk_drew ?_ | refine blk_alloc ?_ _)); refine blk_put (cs := #[.int .i64 ((rd_T108 l0_1 x17_2).f0.f0), .int .i64 ((rd_T108 l0_1 x17_2).f0.f1), .int .i64 0]) ?_ 2 _ rfl; (with_reducible repeat (first | refine blk_drewN ?_ _ | refine blk_drew ?_ | refine blk_alloc ?_ _)); refine blk_put (cs := #[.int .i64 ((rd_T108 l0_1 x17_2).f0.f0), .int .i64 0, .int .i64 0]) ?_ 1 _ rfl; (with_reducible repeat (first | refine blk_drewN ?_ _ | refine blk_drew ?_ | refine blk_alloc ?_ _)); refine blk_put (cs := #[.int .i64 0, .int .i64 0, .int .i64 0]) ?_ 0 _ rfl; (with_reducible repeat (first | refine blk_drewN ?_ _ | refine blk_drew ?_ | refine blk_alloc ?_ _)); exact BK270.out⟩
            have n3_ : Aside0 (Below w.heap.size w (((w39.setCell ⟨gb270, 0, none⟩ (.int .i64 ((rd_T108 l0_1 x17_2).f0.f0))).setCell ⟨gb270, 1, none⟩ (.int .i64 ((rd_T108 l0_1 x17_2).f0.f1))).setCell ⟨gb270, 2, none⟩ (.int .i64 ((rd_T108 l0_1 x17_2).f1)))) := ⟨by repeat (first | (with_reducible first | exact HB.out | apply below_alloc | apply pw_below_drewN | apply below_drew1 | refine below_set ?_ GE268.out | refine below_set ?_ GE270.out) | exact HB.out)⟩
            (try clear HO_3)
            (try clear BK268)
            (try clear BK270)
            (try clear HB)
            generalize (((w39.setCell ⟨gb270, 0, none⟩ (.int .i64 ((rd_T108 l0_1 x17_2).f0.f0))).setCell ⟨gb270, 1, none⟩ (.int .i64 ((rd_T108 l0_1 x17_2).f0.f1))).setCell ⟨gb270, 2, none⟩ (.int .i64 ((rd_T108 l0_1 x17_2).f1))) = w42 at n0_ n1_ n2_ n3_ ⊢
            have HO_3 := n0_
            have BK268 := n1_
            have BK270 := n2_
            have HB := n3_
            clear n0_ n1_ n2_ n3_
            have n0_ := Aside0.mk (Kd.R_drew HO_3.out)
            have n1_ := Aside0.mk (blk_drew BK268.out)
            have n2_ := Aside0.mk (blk_drew BK270.out)
            have n3_ := Aside0.mk (below_drew1 HB.out)
            clear HO_3
            clear BK268
            clear BK270
            clear HB
            have HO_3 := n0_
            have BK268 := n1_
            have BK270 := n2_
            have HB := n3_
            clear n0_ n1_ n2_ n3_
            refine start_ (n := 34) (S := fun w' => w'.cell? ⟨gb270, 0, none⟩ = some (.int .i64 ((rd_T108 l0_1 x17_2).f0.f0)) ∧ w'.cell? ⟨gb270, 1, none⟩ = some (.int .i64 ((rd_T108 l0_1 x17_2).f0.f1)) ∧ w'.cell? ⟨gb270, 2, none⟩ = some (.int .i64 ((rd_T108 l0_1 x17_2).f1))) (ds := []) (bq 34 0) (by kernel_rfl) rfl rfl ⟨(blk_cell BK270.out 0).trans rfl, (blk_cell BK270.out 1).trans rfl, (blk_cell BK270.out 2).trans rfl⟩ (fun hHeld => ?_); refine with_tabW chart_May.tab7 chart_May.bits7 (fun HT_ HW_ => ?_)
            generalize w42.drew = w43 at HO_3 BK268 BK270 HB hHeld ⊢
            refine pu 0 22 (bq 34 1) ?_ rfl rfl (any_of HT_.out (by kernel_rfl)) (fun _ _ _ h => h) (by rfl) ?_ ?_ ?_ ?_
            rotate_left
            ·intro w'; go_simp; with_reducible rfl
            rotate_left
            ·simp only [Act.put, sqA, sqB, sqC, i64_w, i32_w]
             rfl
            refine tk 1 23 (bq 34 3) ?_ rfl rfl (take_ofW HT_.out HW_.out (by kernel_rfl)) (fun _ _ _ h => h) (by rfl) ?_ hHeld ?_ ?_ ?_
            rotate_left
            ·rintro w' ⟨s0, s1, s2⟩
             go_simp
             with_reducible rfl
            rotate_left
            ·simp only [Act.put, sqA, sqB, sqC, i64_w, i32_w]
             rfl
            refine one_ (i := 2) (N := some 24) (bq 34 7) rfl rfl (one_of HT_.out (by kernel_rfl)) (by decide) (fun K hK => ?_)
            refine goes_ Try.func62 (by kernel_rfl) rfl #[.int .i64 ((rd_T108 l0_1 x17_2).f1)] (by rfl) rfl rfl (by (try simp only [List.map_toArray, List.map_cons, List.map_nil]); first | done | rfl | (simp only [List.length_drop, List.length_take]; rfl)) ?_
            with_reducible refine (chart_shard.calls ((rd_T108 l0_1 x17_2).f1) true _ A12.out).mono ?_
            rintro e w' ⟨rfl, ⟨nd, rfl⟩⟩
            refine ⟨_, rfl, ?_⟩
            refine hK.out _ _ ⟨(blk_cell BK270.out 0).trans rfl, (blk_cell BK270.out 1).trans rfl, (blk_cell BK270.out 2).trans rfl⟩ (fun hHeld => ?_)
            clear hK K
            refine norm_ (a' := ?_) ?_ ?_
            rotate_left
            ·show Act.put _ (some 24) _ = _
             simp only [Act.put, sqA, sqB, sqC, i64_w, i32_w]
             rfl
            refine pu 3 25 (bq 34 15) ?_ rfl rfl (any_of HT_.out (by kernel_rfl)) (fun _ _ _ h => h) (by rfl) ?_ ?_ ?_ ?_
            rotate_left
            ·intro w'; go_simp; with_reducible rfl
            rotate_left
            ·simp only [Act.put, sqA, sqB, sqC, i64_w, i32_w]
             rfl
            refine pu 4 26 (bq 34 31) ?_ rfl rfl (any_of HT_.out (by kernel_rfl)) (fun _ _ _ h => h) (by rfl) ?_ ?_ ?_ ?_
            rotate_left
            ·intro w'; go_simp; with_reducible rfl
            rotate_left
            ·simp only [Act.put, sqA, sqB, sqC, i64_w, i32_w]
             rfl
            refine pu 5 27 (bq 34 63) ?_ rfl rfl (any_of HT_.out (by kernel_rfl)) (fun _ _ _ h => h) (by rfl) ?_ ?_ ?_ ?_
            rotate_left
            ·intro w'; go_simp; with_reducible rfl
            rotate_left
            ·simp only [Act.put, sqA, sqB, sqC, i64_w, i32_w]
             rfl
            refine pu 6 28 (bq 34 127) ?_ rfl rfl (any_of HT_.out (by kernel_rfl)) (fun _ _ _ h => h) (by rfl) ?_ ?_ ?_ ?_
            rotate_left
            ·intro w'; go_simp; with_reducible rfl
            rotate_left
            ·simp only [Act.put, sqA, sqB, sqC, i64_w, i32_w]
             rfl
            refine pu 7 29 (bq 34 255) ?_ rfl rfl (any_of HT_.out (by kernel_rfl)) (fun _ _ _ h => h) (by rfl) ?_ ?_ ?_ ?_
            rotate_left
            ·intro w'; go_simp; with_reducible rfl
            rotate_left
            ·simp only [Act.put, sqA, sqB, sqC, i64_w, i32_w]
             rfl
            refine pure_ (i := 8) (N := some 30) (v := undef) (a' := ?_) (bq 34 511) rfl rfl (any_of HT_.out (by kernel_rfl)) (fun _ _ _ h => h) (Or.inr ⟨by rfl, rfl⟩) ?_ ?_
            rotate_left
            ·simp only [Act.put, sqA, sqB, sqC, i64_w, i32_w]
             rfl
            refine pure_ (i := 9) (N := some 31) (v := undef) (a' := ?_) (bq 34 1023) rfl rfl (any_of HT_.out (by kernel_rfl)) (fun _ _ _ h => h) (Or.inr ⟨by rfl, rfl⟩) ?_ ?_
            rotate_left
            ·simp only [Act.put, sqA, sqB, sqC, i64_w, i32_w]
             rfl
            refine pure_ (i := 10) (N := some 32) (v := undef) (a' := ?_) (bq 34 2047) rfl rfl (any_of HT_.out (by kernel_rfl)) (fun _ _ _ h => h) (Or.inr ⟨by rfl, rfl⟩) ?_ ?_
            rotate_left
            ·simp only [Act.put, sqA, sqB, sqC, i64_w, i32_w]
             rfl
            refine pure_ (i := 11) (N := some 33) (v := undef) (a' := ?_) (bq 34 4095) rfl rfl (any_of HT_.out (by kernel_rfl)) (fun _ _ _ h => h) (Or.inr ⟨by rfl, rfl⟩) ?_ ?_
            rotate_left
            ·simp only [Act.put, sqA, sqB, sqC, i64_w, i32_w]
             rfl
            refine pure_ (i := 12) (N := some 34) (v := undef) (a' := ?_) (bq 34 8191) rfl rfl (any_of HT_.out (by kernel_rfl)) (fun _ _ _ h => h) (Or.inr ⟨by rfl, rfl⟩) ?_ ?_
            rotate_left
            ·simp only [Act.put, sqA, sqB, sqC, i64_w, i32_w]
             rfl
            refine pure_ (i := 13) (N := some 35) (v := undef) (a' := ?_) (bq 34 16383) rfl rfl (any_of HT_.out (by kernel_rfl)) (fun _ _ _ h => h) (Or.inr ⟨by rfl, rfl⟩) ?_ ?_
            rotate_left
            ·simp only [Act.put, sqA, sqB, sqC, i64_w, i32_w]
             rfl
            refine pure_ (i := 14) (N := some 36) (v := undef) (a' := ?_) (bq 34 32767) rfl rfl (any_of HT_.out (by kernel_rfl)) (fun _ _ _ h => h) (Or.inr ⟨by rfl, rfl⟩) ?_ ?_
            rotate_left
            ·simp only [Act.put, sqA, sqB, sqC, i64_w, i32_w]
             rfl
            refine pure_ (i := 15) (N := some 37) (v := undef) (a' := ?_) (bq 34 65535) rfl rfl (any_of HT_.out (by kernel_rfl)) (fun _ _ _ h => h) (Or.inr ⟨by rfl, rfl⟩) ?_ ?_
            rotate_left
            ·simp only [Act.put, sqA, sqB, sqC, i64_w, i32_w]
             rfl
            refine pure_ (i := 16) (N := some 38) (v := undef) (a' := ?_) (bq 34 131071) rfl rfl (any_of HT_.out (by kernel_rfl)) (fun _ _ _ h => h) (Or.inr ⟨by rfl, rfl⟩) ?_ ?_
            rotate_left
            ·simp only [Act.put, sqA, sqB, sqC, i64_w, i32_w]
             rfl
            refine pure_ (i := 17) (N := some 39) (v := undef) (a' := ?_) (bq 34 262143) rfl rfl (any_of HT_.out (by kernel_rfl)) (fun _ _ _ h => h) (Or.inr ⟨by rfl, rfl⟩) ?_ ?_
            rotate_left
            ·simp only [Act.put, sqA, sqB, sqC, i64_w, i32_w]
             rfl
            refine pure_ (i := 18) (N := some 40) (v := undef) (a' := ?_) (bq 34 524287) rfl rfl (any_of HT_.out (by kernel_rfl)) (fun _ _ _ h => h) (Or.inr ⟨by rfl, rfl⟩) ?_ ?_
            rotate_left
            ·simp only [Act.put, sqA, sqB, sqC, i64_w, i32_w]
             rfl
            refine pure_ (i := 19) (N := some 41) (v := undef) (a' := ?_) (bq 34 1048575) rfl rfl (any_of HT_.out (by kernel_rfl)) (fun _ _ _ h => h) (Or.inr ⟨by rfl, rfl⟩) ?_ ?_
            rotate_left
            ·simp only [Act.put, sqA, sqB, sqC, i64_w, i32_w]
             rfl
            refine pure_ (i := 20) (N := some 42) (v := undef) (a' := ?_) (bq 34 2097151) rfl rfl (any_of HT_.out (by kernel_rfl)) (fun _ _ _ h => h) (Or.inr ⟨by rfl, rfl⟩) ?_ ?_
            rotate_left
            ·simp only [Act.put, sqA, sqB, sqC, i64_w, i32_w]
             rfl
            refine pure_ (i := 21) (N := some 43) (v := undef) (a' := ?_) (bq 34 4194303) rfl rfl (any_of HT_.out (by kernel_rfl)) (fun _ _ _ h => h) (Or.inr ⟨by rfl, rfl⟩) ?_ ?_
            rotate_left
            ·simp only [Act.put, sqA, sqB, sqC, i64_w, i32_w]
             rfl
            refine pure_ (i := 22) (N := some 44) (v := undef) (a' := ?_) (bq 34 8388607) rfl rfl (any_of HT_.out (by kernel_rfl)) (fun _ _ _ h => h) (Or.inr ⟨by rfl, rfl⟩) ?_ ?_
            rotate_left
            ·simp only [Act.put, sqA, sqB, sqC, i64_w, i32_w]
             rfl
            refine pure_ (i := 23) (N := some 45) (v := undef) (a' := ?_) (bq 34 16777215) rfl rfl (any_of HT_.out (by kernel_rfl)) (fun _ _ _ h => h) (Or.inr ⟨by rfl, rfl⟩) ?_ ?_
            rotate_left
            ·simp only [Act.put, sqA, sqB, sqC, i64_w, i32_w]
             rfl
            refine pure_ (i := 24) (N := some 46) (v := undef) (a' := ?_) (bq 34 33554431) rfl rfl (any_of HT_.out (by kernel_rfl)) (fun _ _ _ h => h) (Or.inr ⟨by rfl, rfl⟩) ?_ ?_
            rotate_left
            ·simp only [Act.put, sqA, sqB, sqC, i64_w, i32_w]
             rfl
            refine pure_ (i := 25) (N := some 47) (v := undef) (a' := ?_) (bq 34 67108863) rfl rfl (any_of HT_.out (by kernel_rfl)) (fun _ _ _ h => h) (Or.inr ⟨by rfl, rfl⟩) ?_ ?_
            rotate_left
            ·simp only [Act.put, sqA, sqB, sqC, i64_w, i32_w]
             rfl
            refine pure_ (i := 26) (N := some 48) (v := undef) (a' := ?_) (bq 34 134217727) rfl rfl (any_of HT_.out (by kernel_rfl)) (fun _ _ _ h => h) (Or.inr ⟨by rfl, rfl⟩) ?_ ?_
            rotate_left
            ·simp only [Act.put, sqA, sqB, sqC, i64_w, i32_w]
             rfl
            refine pure_ (i := 27) (N := some 49) (v := undef) (a' := ?_) (bq 34 268435455) rfl rfl (any_of HT_.out (by kernel_rfl)) (fun _ _ _ h => h) (Or.inr ⟨by rfl, rfl⟩) ?_ ?_
            rotate_left
            ·simp only [Act.put, sqA, sqB, sqC, i64_w, i32_w]
             rfl
            refine pure_ (i := 28) (N := some 50) (v := undef) (a' := ?_) (bq 34 536870911) rfl rfl (any_of HT_.out (by kernel_rfl)) (fun _ _ _ h => h) (Or.inr ⟨by rfl, rfl⟩) ?_ ?_
            rotate_left
            ·simp only [Act.put, sqA, sqB, sqC, i64_w, i32_w]
             rfl
            refine pure_ (i := 29) (N := some 51) (v := undef) (a' := ?_) (bq 34 1073741823) rfl rfl (any_of HT_.out (by kernel_rfl)) (fun _ _ _ h => h) (Or.inr ⟨by rfl, rfl⟩) ?_ ?_
            rotate_left
            ·simp only [Act.put, sqA, sqB, sqC, i64_w, i32_w]
             rfl
            refine pure_ (i := 30) (N := some 52) (v := undef) (a' := ?_) (bq 34 2147483647) rfl rfl (any_of HT_.out (by kernel_rfl)) (fun _ _ _ h => h) (Or.inr ⟨by rfl, rfl⟩) ?_ ?_
            rotate_left
            ·simp only [Act.put, sqA, sqB, sqC, i64_w, i32_w]
             rfl
            refine pure_ (i := 31) (N := some 53) (v := undef) (a' := ?_) (bq 34 4294967295) rfl rfl (any_of HT_.out (by kernel_rfl)) (fun _ _ _ h => h) (Or.inr ⟨by rfl, rfl⟩) ?_ ?_
            rotate_left
            ·simp only [Act.put, sqA, sqB, sqC, i64_w, i32_w]
             rfl
            refine pu 32 54 (bq 34 8589934591) ?_ rfl rfl (any_of HT_.out (by kernel_rfl)) (fun _ _ _ h => h) (by rfl) ?_ ?_ ?_ ?_
            rotate_left
            ·intro w'; go_simp; with_reducible rfl
            rotate_left
            ·simp only [Act.put, sqA, sqB, sqC, i64_w, i32_w]
             rfl
            refine pu 33 55 (bq 34 17179869183) ?_ rfl rfl (any_of HT_.out (by kernel_rfl)) (fun _ _ _ h => h) (by rfl) ?_ ?_ ?_ ?_
            rotate_left
            ·intro w'; go_simp; with_reducible rfl
            rotate_left
            ·simp only [Act.put, sqA, sqB, sqC, i64_w, i32_w]
             rfl
            refine done_ (done_of HT_.out (by kernel_rfl)) ?_
            have hcz44_0 : w43.cell? ⟨gb270, 0, none⟩ = some (.int .i64 ((rd_T108 l0_1 x17_2).f0.f0)) := (blk_cell BK270.out 0).trans rfl
            have hcz44_1 : w43.cell? ⟨gb270, 1, none⟩ = some (.int .i64 ((rd_T108 l0_1 x17_2).f0.f1)) := (blk_cell BK270.out 1).trans rfl
            have hcz44_2 : w43.cell? ⟨gb270, 2, none⟩ = some (.int .i64 ((rd_T108 l0_1 x17_2).f1)) := (blk_cell BK270.out 2).trans rfl
            have hfz44_0 := blk_frozen BK270.out 0
            have hfz44_1 := blk_frozen BK270.out 1
            have hfz44_2 := blk_frozen BK270.out 2
            try go_wp2_with (first | ((with_reducible refine gate_builtin (b := .append) (xs := #[.tmp 56, .tmp 59]) rfl ?_); at_builtin; refine Kd.R_append k35 (w0 := w) w.heap.size rfl (.tmp 56) (.tmp 59) 40 35 (.agg #[(.int .i64 0), (.int .i64 0)]) 16 rfl Try.underlying40 info35 rfl (by decide) (by omega) u3 x3_2 (⟨(rd_T108 l0_1 x17_2).f0.f0, (rd_T108 l0_1 x17_2).f0.f1⟩ : S35) [.int .i64 ((rd_T108 l0_1 x17_2).f0.f0), .int .i64 ((rd_T108 l0_1 x17_2).f0.f1)] (fun _ => True) (fun _ => False) rfl rfl ?aP (fun _ hk => hk.elim) ?aF ?aO ?aB ?aS ?aL ?_; (case aP => exact k35_mkM _ _ _ (⟨(rd_T108 l0_1 x17_2).f0.f0, (rd_T108 l0_1 x17_2).f0.f1⟩ : S35)); (case aB => exact (by repeat (first | (with_reducible first | exact HB.out | apply below_alloc | apply pw_below_drewN | apply below_drew1 | refine below_set ?_ GE268.out | refine below_set ?_ GE270.out) | exact HB.out))); (case aF => exact (fun _ _ => trivial)); (case aO => exact (by (with_reducible repeat (first | apply Kd.R_alloc | apply Kd.R_drewN | apply Kd.R_drew)); exact HO_3.out)); (case aS => exact (below_size (by repeat (first | (with_reducible first | exact HB.out | apply below_alloc | apply pw_below_drewN | apply below_drew1 | refine below_set ?_ GE268.out | refine below_set ?_ GE270.out) | exact HB.out)))); (case aL => have := LMc38.out; omega); intro v278 w45 ho hb hg hat; rw [← Ny277.out] at ho; have n0_ := Aside0.mk (blk_grown (g := gb268) (o := .cells #[.int .i64 a0_0, .slice (some ad269) l0_1.length c0_1] 45 (0, 0)) (by (with_reducible repeat (first | refine blk_drewN ?_ _ | refine blk_drew ?_ | refine blk_alloc ?_ _)); exact BK268.out) hg (Kd.R_ne HO_3.out BK268.out (by decide))); have n1_ := Aside0.mk (blk_grown (g := gb270) (o := .cells #[.int .i64 ((rd_T108 l0_1 x17_2).f0.f0), .int .i64 ((rd_T108 l0_1 x17_2).f0.f1), .int .i64 ((rd_T108 l0_1 x17_2).f1)] 108 (0, 0)) (by (with_reducible repeat (first | refine blk_drewN ?_ _ | refine blk_drew ?_ | refine blk_alloc ?_ _)); exact BK270.out) hg (Kd.R_ne HO_3.out BK270.out (by decide))); have n2_ := Aside0.mk (hb); have n3_ := Aside0.mk (ho); clear BK268; clear BK270; clear HB; clear HO_3; have BK268 := n0_; have BK270 := n1_; have HB := n2_; have HO279 := n3_; clear n0_ n1_ n2_ n3_; clear ho hb hg hat))
            go_roundg k2
            case measure => have := HJ1.out; have := HK2.out; omega
            case rel => exact ⟨(y277), (wrap64 (x17_2 + 1)), (by first | rfl | (simp; done) | (simp [*]; done)), H', ⟨by have := HJ1.out; have := HK2.out; omega⟩, ⟨by (with_reducible repeat (first | apply Kd.R_alloc | apply Kd.R_drewN | apply Kd.R_drew)); exact HO279.out⟩, ⟨by (with_reducible repeat (first | refine blk_drewN ?_ _ | refine blk_drew ?_ | refine blk_alloc ?_ _)); exact BK268.out⟩, ⟨by repeat (first | (with_reducible first | exact HB.out | apply below_alloc | apply pw_below_drewN | apply below_drew1 | refine below_set ?_ GE268.out | refine below_set ?_ GE270.out) | exact HB.out)⟩⟩
           ·rw [if_neg c38] at H
            exact absurd H (by simp)
         ·replace c13 := Bool.eq_false_iff.mpr c13
          subst c13
          have H1 : (some false) = some r := by rw [if_neg (show ¬ (false = true) by decide)] at H; exact H
          clear H
          have H := H1
          clear H1
          obtain rfl := Option.some.inj H
          have p269 : 0 ≤ (x17_2 : Int) := of_decide_eq_true (by first | (with_reducible assumption) | assumption)
          have q269 : x17_2 < (l0_1.length : Int) := of_decide_eq_true (by first | (with_reducible assumption) | assumption)
          obtain ⟨ad269, e269, hx269_0, hx269_1, hx269_2⟩ := at_T108 HR0_1.out x17_2 p269 q269
          cases e269
          replace hx269_0 := (HB.out.cell (World.block_lt_of_cell? w _ hx269_0)).trans hx269_0
          replace hx269_1 := (HB.out.cell (World.block_lt_of_cell? w _ hx269_1)).trans hx269_1
          replace hx269_2 := (HB.out.cell (World.block_lt_of_cell? w _ hx269_2)).trans hx269_2
          replace p269 := eq_true p269
          replace q269 := eq_true q269
          try go_wp2_with (first | ((with_reducible refine gate_dst (N := 5) rfl ?_); refine box_event ?hg (N := 5) ?hd (cs := #[.int .i64 0, .int .i64 0, .int .i64 0]) (t := 108) ?hr ?_; (case hd => rfl); (case hg => rfl); (case hr => first | (go_simp; done) | (go_simp; rfl)); intro gb270 hg w46 hbox hb; have n0_ := Aside0.mk (Kd.R_below (by (with_reducible repeat (first | apply Kd.R_alloc | apply Kd.R_drewN | apply Kd.R_drew)); exact HO_3.out) hb); have n1_ := Aside0.mk (blk_below (g := gb268) (o := .cells #[.int .i64 a0_0, .slice (some ad269) l0_1.length c0_1] 45 (0, 0)) (by (with_reducible repeat (first | refine blk_drewN ?_ _ | refine blk_drew ?_ | refine blk_alloc ?_ _)); exact BK268.out) hb); have n2_ := Aside0.mk (below_step (by repeat (first | (with_reducible first | exact HB.out | apply below_alloc | apply pw_below_drewN | apply below_drew1 | refine below_set ?_ GE268.out) | exact HB.out)) hb); have n3_ := Aside0.mk (hbox); have n4_ := Aside0.mk ((by rw [hg]; exact (below_size (by repeat (first | (with_reducible first | exact HB.out | apply below_alloc | apply pw_below_drewN | apply below_drew1 | refine below_set ?_ GE268.out) | exact HB.out))) : w.heap.size ≤ gb270)); have n5_ := Aside0.mk ((by rw [hg]; exact (below_size (by repeat (first | (with_reducible first | exact HB.out | apply below_alloc | apply pw_below_drewN | apply below_drew1 | refine below_set ?_ GE268.out) | exact HB.out))) : w.heap.size ≤ gb270)); have n6_ := Aside0.mk ((by rw [hg]; exact Nat.ne_of_lt (blk_lt (g := gb268) (o := .cells #[.int .i64 a0_0, .slice (some ad269) l0_1.length c0_1] 45 (0, 0)) (by (with_reducible repeat (first | refine blk_drewN ?_ _ | refine blk_drew ?_ | refine blk_alloc ?_ _)); exact BK268.out)) : gb268 ≠ gb270)); have n7_ := Aside0.mk ((by rw [hg]; exact Nat.ne_of_gt (blk_lt (g := gb268) (o := .cells #[.int .i64 a0_0, .slice (some ad269) l0_1.length c0_1] 45 (0, 0)) (by (with_reducible repeat (first | refine blk_drewN ?_ _ | refine blk_drew ?_ | refine blk_alloc ?_ _)); exact BK268.out)) : gb270 ≠ gb268)); clear HO_3; clear BK268; clear HB; have HO_3 := n0_; have BK268 := n1_; have HB := n2_; have BK270 := n3_; have GW270 := n4_; have GE270 := n5_; have NB268_270 := n6_; have NB270_268 := n7_; clear n0_ n1_ n2_ n3_ n4_ n5_ n6_ n7_; clear hb hbox hg; have hnb47 := NB270_268.out; have hnc47 := NB268_270.out; have hcz48_0 : w46.cell? ⟨gb270, 0, none⟩ = some (.int .i64 0) := (blk_cell BK270.out 0).trans rfl; have hcz48_1 : w46.cell? ⟨gb270, 1, none⟩ = some (.int .i64 0) := (blk_cell BK270.out 1).trans rfl; have hcz48_2 : w46.cell? ⟨gb270, 2, none⟩ = some (.int .i64 0) := (blk_cell BK270.out 2).trans rfl; have hfz48_0 := blk_frozen BK270.out 0; have hfz48_1 := blk_frozen BK270.out 1; have hfz48_2 := blk_frozen BK270.out 2))
          have n0_ : Aside0 (Kd.R k35 35 (((w46.setCell ⟨gb270, 0, none⟩ (.int .i64 ((rd_T108 l0_1 x17_2).f0.f0))).setCell ⟨gb270, 1, none⟩ (.int .i64 ((rd_T108 l0_1 x17_2).f0.f1))).setCell ⟨gb270, 2, none⟩ (.int .i64 ((rd_T108 l0_1 x17_2).f1))) w.heap.size (fun _ => True) u3 x3_2) := ⟨by (with_reducible repeat (first | apply Kd.R_alloc | apply Kd.R_drewN | apply Kd.R_drew)); exact Kd.R_mono (Kd.R_far (p := ⟨gb270, 2, none⟩) (Kd.R_far (p := ⟨gb270, 1, none⟩) (Kd.R_far (p := ⟨gb270, 0, none⟩) (Kd.R_types HO_3.out BK270.out (by decide)) (fun _ hk => hk.2) (.int .i64 ((rd_T108 l0_1 x17_2).f0.f0))) (fun _ hk => hk.2) (.int .i64 ((rd_T108 l0_1 x17_2).f0.f1))) (fun _ hk => hk.2) (.int .i64 ((rd_T108 l0_1 x17_2).f1))) (fun _ hk => trivial)⟩
          have n1_ : Aside0 ((((w46.setCell ⟨gb270, 0, none⟩ (.int .i64 ((rd_T108 l0_1 x17_2).f0.f0))).setCell ⟨gb270, 1, none⟩ (.int .i64 ((rd_T108 l0_1 x17_2).f0.f1))).setCell ⟨gb270, 2, none⟩ (.int .i64 ((rd_T108 l0_1 x17_2).f1))).heap[gb268]? = some (.cells #[.int .i64 a0_0, .slice (some ad269) l0_1.length c0_1] 45 (0, 0))) := ⟨by (with_reducible repeat (first | refine blk_drewN ?_ _ | refine blk_drew ?_ | refine blk_alloc ?_ _)); refine blk_far ?_ NB268_270.out _; (with_reducible repeat (first | refine blk_drewN ?_ _ | refine blk_drew ?_ | refine blk_alloc ?_ _)); refine blk_far ?_ NB268_270.out _; (with_reducible repeat (first | refine blk_drewN ?_ _ | refine blk_drew ?_ | refine blk_alloc ?_ _)); refine blk_far ?_ NB268_270.out _; (with_reducible repeat (first | refine blk_drewN ?_ _ | refine blk_drew ?_ | refine blk_alloc ?_ _)); exact BK268.out⟩
          have n2_ : Aside0 ((((w46.setCell ⟨gb270, 0, none⟩ (.int .i64 ((rd_T108 l0_1 x17_2).f0.f0))).setCell ⟨gb270, 1, none⟩ (.int .i64 ((rd_T108 l0_1 x17_2).f0.f1))).setCell ⟨gb270, 2, none⟩ (.int .i64 ((rd_T108 l0_1 x17_2).f1))).heap[gb270]? = some (.cells #[.int .i64 ((rd_T108 l0_1 x17_2).f0.f0), .int .i64 ((rd_T108 l0_1 x17_2).f0.f1), .int .i64 ((rd_T108 l0_1 x17_2).f1)] 108 (0, 0))) := ⟨by (with_reducible repeat (first | refine blk_drewN ?_ _ | refine blk_drew ?_ | refine blk_alloc ?_ _)); refine blk_put (cs := #[.int .i64 ((rd_T108 l0_1 x17_2).f0.f0), .int .i64 ((rd_T108 l0_1 x17_2).f0.f1), .int .i64 0]) ?_ 2 _ rfl; (with_reducible repeat (first | refine blk_drewN ?_ _ | refine blk_drew ?_ | refine blk_alloc ?_ _)); refine blk_put (cs := #[.int .i64 ((rd_T108 l0_1 x17_2).f0.f0), .int .i64 0, .int .i64 0]) ?_ 1 _ rfl; (with_reducible repeat (first | refine blk_drewN ?_ _ | refine blk_drew ?_ | refine blk_alloc ?_ _)); refine blk_put (cs := #[.int .i64 0, .int .i64 0, .int .i64 0]) ?_ 0 _ rfl; (with_reducible repeat (first | refine blk_drewN ?_ _ | refine blk_drew ?_ | refine blk_alloc ?_ _)); exact BK270.out⟩
          have n3_ : Aside0 (Below w.heap.size w (((w46.setCell ⟨gb270, 0, none⟩ (.int .i64 ((rd_T108 l0_1 x17_2).f0.f0))).setCell ⟨gb270, 1, none⟩ (.int .i64 ((rd_T108 l0_1 x17_2).f0.f1))).setCell ⟨gb270, 2, none⟩ (.int .i64 ((rd_T108 l0_1 x17_2).f1)))) := ⟨by repeat (first | (with_reducible first | exact HB.out | apply below_alloc | apply pw_below_drewN | apply below_drew1 | refine below_set ?_ GE268.out | refine below_set ?_ GE270.out) | exact HB.out)⟩
          (try clear HO_3)
          (try clear BK268)
          (try clear BK270)
          (try clear HB)
          generalize (((w46.setCell ⟨gb270, 0, none⟩ (.int .i64 ((rd_T108 l0_1 x17_2).f0.f0))).setCell ⟨gb270, 1, none⟩ (.int .i64 ((rd_T108 l0_1 x17_2).f0.f1))).setCell ⟨gb270, 2, none⟩ (.int .i64 ((rd_T108 l0_1 x17_2).f1))) = w49 at n0_ n1_ n2_ n3_ ⊢
          have HO_3 := n0_
          have BK268 := n1_
          have BK270 := n2_
          have HB := n3_
          clear n0_ n1_ n2_ n3_
          have n0_ := Aside0.mk (Kd.R_drew HO_3.out)
          have n1_ := Aside0.mk (blk_drew BK268.out)
          have n2_ := Aside0.mk (blk_drew BK270.out)
          have n3_ := Aside0.mk (below_drew1 HB.out)
          clear HO_3
          clear BK268
          clear BK270
          clear HB
          have HO_3 := n0_
          have BK268 := n1_
          have BK270 := n2_
          have HB := n3_
          clear n0_ n1_ n2_ n3_
          refine start_ (n := 34) (S := fun w' => w'.cell? ⟨gb270, 0, none⟩ = some (.int .i64 ((rd_T108 l0_1 x17_2).f0.f0)) ∧ w'.cell? ⟨gb270, 1, none⟩ = some (.int .i64 ((rd_T108 l0_1 x17_2).f0.f1)) ∧ w'.cell? ⟨gb270, 2, none⟩ = some (.int .i64 ((rd_T108 l0_1 x17_2).f1))) (ds := []) (bq 34 0) (by kernel_rfl) rfl rfl ⟨(blk_cell BK270.out 0).trans rfl, (blk_cell BK270.out 1).trans rfl, (blk_cell BK270.out 2).trans rfl⟩ (fun hHeld => ?_); refine with_tabW chart_May.tab7 chart_May.bits7 (fun HT_ HW_ => ?_)
          generalize w49.drew = w50 at HO_3 BK268 BK270 HB hHeld ⊢
          refine pu 0 22 (bq 34 1) ?_ rfl rfl (any_of HT_.out (by kernel_rfl)) (fun _ _ _ h => h) (by rfl) ?_ ?_ ?_ ?_
          rotate_left
          ·intro w'; go_simp; with_reducible rfl
          rotate_left
          ·simp only [Act.put, sqA, sqB, sqC, i64_w, i32_w]
           rfl
          refine tk 1 23 (bq 34 3) ?_ rfl rfl (take_ofW HT_.out HW_.out (by kernel_rfl)) (fun _ _ _ h => h) (by rfl) ?_ hHeld ?_ ?_ ?_
          rotate_left
          ·rintro w' ⟨s0, s1, s2⟩
           go_simp
           with_reducible rfl
          rotate_left
          ·simp only [Act.put, sqA, sqB, sqC, i64_w, i32_w]
           rfl
          refine one_ (i := 2) (N := some 24) (bq 34 7) rfl rfl (one_of HT_.out (by kernel_rfl)) (by decide) (fun K hK => ?_)
          refine goes_ Try.func62 (by kernel_rfl) rfl #[.int .i64 ((rd_T108 l0_1 x17_2).f1)] (by rfl) rfl rfl (by (try simp only [List.map_toArray, List.map_cons, List.map_nil]); first | done | rfl | (simp only [List.length_drop, List.length_take]; rfl)) ?_
          with_reducible refine (chart_shard.calls ((rd_T108 l0_1 x17_2).f1) false _ A12.out).mono ?_
          rintro e w' ⟨rfl, ⟨nd, rfl⟩⟩
          refine ⟨_, rfl, ?_⟩
          refine hK.out _ _ ⟨(blk_cell BK270.out 0).trans rfl, (blk_cell BK270.out 1).trans rfl, (blk_cell BK270.out 2).trans rfl⟩ (fun hHeld => ?_)
          clear hK K
          refine norm_ (a' := ?_) ?_ ?_
          rotate_left
          ·show Act.put _ (some 24) _ = _
           simp only [Act.put, sqA, sqB, sqC, i64_w, i32_w]
           rfl
          refine pu 3 25 (bq 34 15) ?_ rfl rfl (any_of HT_.out (by kernel_rfl)) (fun _ _ _ h => h) (by rfl) ?_ ?_ ?_ ?_
          rotate_left
          ·intro w'; go_simp; with_reducible rfl
          rotate_left
          ·simp only [Act.put, sqA, sqB, sqC, i64_w, i32_w]
           rfl
          refine pu 4 26 (bq 34 31) ?_ rfl rfl (any_of HT_.out (by kernel_rfl)) (fun _ _ _ h => h) (by rfl) ?_ ?_ ?_ ?_
          rotate_left
          ·intro w'; go_simp; with_reducible rfl
          rotate_left
          ·simp only [Act.put, sqA, sqB, sqC, i64_w, i32_w]
           rfl
          refine pure_ (i := 5) (N := some 27) (v := undef) (a' := ?_) (bq 34 63) rfl rfl (any_of HT_.out (by kernel_rfl)) (fun _ _ _ h => h) (Or.inr ⟨by rfl, rfl⟩) ?_ ?_
          rotate_left
          ·simp only [Act.put, sqA, sqB, sqC, i64_w, i32_w]
           rfl
          refine pure_ (i := 6) (N := some 28) (v := undef) (a' := ?_) (bq 34 127) rfl rfl (any_of HT_.out (by kernel_rfl)) (fun _ _ _ h => h) (Or.inr ⟨by rfl, rfl⟩) ?_ ?_
          rotate_left
          ·simp only [Act.put, sqA, sqB, sqC, i64_w, i32_w]
           rfl
          refine pure_ (i := 7) (N := some 29) (v := undef) (a' := ?_) (bq 34 255) rfl rfl (any_of HT_.out (by kernel_rfl)) (fun _ _ _ h => h) (Or.inr ⟨by rfl, rfl⟩) ?_ ?_
          rotate_left
          ·simp only [Act.put, sqA, sqB, sqC, i64_w, i32_w]
           rfl
          refine pure_ (i := 8) (N := some 30) (v := undef) (a' := ?_) (bq 34 511) rfl rfl (any_of HT_.out (by kernel_rfl)) (fun _ _ _ h => h) (Or.inr ⟨by rfl, rfl⟩) ?_ ?_
          rotate_left
          ·simp only [Act.put, sqA, sqB, sqC, i64_w, i32_w]
           rfl
          refine pure_ (i := 9) (N := some 31) (v := undef) (a' := ?_) (bq 34 1023) rfl rfl (any_of HT_.out (by kernel_rfl)) (fun _ _ _ h => h) (Or.inr ⟨by rfl, rfl⟩) ?_ ?_
          rotate_left
          ·simp only [Act.put, sqA, sqB, sqC, i64_w, i32_w]
           rfl
          refine pure_ (i := 10) (N := some 32) (v := undef) (a' := ?_) (bq 34 2047) rfl rfl (any_of HT_.out (by kernel_rfl)) (fun _ _ _ h => h) (Or.inr ⟨by rfl, rfl⟩) ?_ ?_
          rotate_left
          ·simp only [Act.put, sqA, sqB, sqC, i64_w, i32_w]
           rfl
          refine pure_ (i := 11) (N := some 33) (v := undef) (a' := ?_) (bq 34 4095) rfl rfl (any_of HT_.out (by kernel_rfl)) (fun _ _ _ h => h) (Or.inr ⟨by rfl, rfl⟩) ?_ ?_
          rotate_left
          ·simp only [Act.put, sqA, sqB, sqC, i64_w, i32_w]
           rfl
          refine pure_ (i := 12) (N := some 34) (v := undef) (a' := ?_) (bq 34 8191) rfl rfl (any_of HT_.out (by kernel_rfl)) (fun _ _ _ h => h) (Or.inr ⟨by rfl, rfl⟩) ?_ ?_
          rotate_left
          ·simp only [Act.put, sqA, sqB, sqC, i64_w, i32_w]
           rfl
          refine pure_ (i := 13) (N := some 35) (v := undef) (a' := ?_) (bq 34 16383) rfl rfl (any_of HT_.out (by kernel_rfl)) (fun _ _ _ h => h) (Or.inr ⟨by rfl, rfl⟩) ?_ ?_
          rotate_left
          ·simp only [Act.put, sqA, sqB, sqC, i64_w, i32_w]
           rfl
          refine pure_ (i := 14) (N := some 36) (v := undef) (a' := ?_) (bq 34 32767) rfl rfl (any_of HT_.out (by kernel_rfl)) (fun _ _ _ h => h) (Or.inr ⟨by rfl, rfl⟩) ?_ ?_
          rotate_left
          ·simp only [Act.put, sqA, sqB, sqC, i64_w, i32_w]
           rfl
          refine pure_ (i := 15) (N := some 37) (v := undef) (a' := ?_) (bq 34 65535) rfl rfl (any_of HT_.out (by kernel_rfl)) (fun _ _ _ h => h) (Or.inr ⟨by rfl, rfl⟩) ?_ ?_
          rotate_left
          ·simp only [Act.put, sqA, sqB, sqC, i64_w, i32_w]
           rfl
          refine pure_ (i := 16) (N := some 38) (v := undef) (a' := ?_) (bq 34 131071) rfl rfl (any_of HT_.out (by kernel_rfl)) (fun _ _ _ h => h) (Or.inr ⟨by rfl, rfl⟩) ?_ ?_
          rotate_left
          ·simp only [Act.put, sqA, sqB, sqC, i64_w, i32_w]
           rfl
          refine pure_ (i := 17) (N := some 39) (v := undef) (a' := ?_) (bq 34 262143) rfl rfl (any_of HT_.out (by kernel_rfl)) (fun _ _ _ h => h) (Or.inr ⟨by rfl, rfl⟩) ?_ ?_
          rotate_left
          ·simp only [Act.put, sqA, sqB, sqC, i64_w, i32_w]
           rfl
          refine pure_ (i := 18) (N := some 40) (v := undef) (a' := ?_) (bq 34 524287) rfl rfl (any_of HT_.out (by kernel_rfl)) (fun _ _ _ h => h) (Or.inr ⟨by rfl, rfl⟩) ?_ ?_
          rotate_left
          ·simp only [Act.put, sqA, sqB, sqC, i64_w, i32_w]
           rfl
          refine pure_ (i := 19) (N := some 41) (v := undef) (a' := ?_) (bq 34 1048575) rfl rfl (any_of HT_.out (by kernel_rfl)) (fun _ _ _ h => h) (Or.inr ⟨by rfl, rfl⟩) ?_ ?_
          rotate_left
          ·simp only [Act.put, sqA, sqB, sqC, i64_w, i32_w]
           rfl
          refine pure_ (i := 20) (N := some 42) (v := undef) (a' := ?_) (bq 34 2097151) rfl rfl (any_of HT_.out (by kernel_rfl)) (fun _ _ _ h => h) (Or.inr ⟨by rfl, rfl⟩) ?_ ?_
          rotate_left
          ·simp only [Act.put, sqA, sqB, sqC, i64_w, i32_w]
           rfl
          refine pure_ (i := 21) (N := some 43) (v := undef) (a' := ?_) (bq 34 4194303) rfl rfl (any_of HT_.out (by kernel_rfl)) (fun _ _ _ h => h) (Or.inr ⟨by rfl, rfl⟩) ?_ ?_
          rotate_left
          ·simp only [Act.put, sqA, sqB, sqC, i64_w, i32_w]
           rfl
          refine pure_ (i := 22) (N := some 44) (v := undef) (a' := ?_) (bq 34 8388607) rfl rfl (any_of HT_.out (by kernel_rfl)) (fun _ _ _ h => h) (Or.inr ⟨by rfl, rfl⟩) ?_ ?_
          rotate_left
          ·simp only [Act.put, sqA, sqB, sqC, i64_w, i32_w]
           rfl
          refine pure_ (i := 23) (N := some 45) (v := undef) (a' := ?_) (bq 34 16777215) rfl rfl (any_of HT_.out (by kernel_rfl)) (fun _ _ _ h => h) (Or.inr ⟨by rfl, rfl⟩) ?_ ?_
          rotate_left
          ·simp only [Act.put, sqA, sqB, sqC, i64_w, i32_w]
           rfl
          refine pure_ (i := 24) (N := some 46) (v := undef) (a' := ?_) (bq 34 33554431) rfl rfl (any_of HT_.out (by kernel_rfl)) (fun _ _ _ h => h) (Or.inr ⟨by rfl, rfl⟩) ?_ ?_
          rotate_left
          ·simp only [Act.put, sqA, sqB, sqC, i64_w, i32_w]
           rfl
          refine pure_ (i := 25) (N := some 47) (v := undef) (a' := ?_) (bq 34 67108863) rfl rfl (any_of HT_.out (by kernel_rfl)) (fun _ _ _ h => h) (Or.inr ⟨by rfl, rfl⟩) ?_ ?_
          rotate_left
          ·simp only [Act.put, sqA, sqB, sqC, i64_w, i32_w]
           rfl
          refine pure_ (i := 26) (N := some 48) (v := undef) (a' := ?_) (bq 34 134217727) rfl rfl (any_of HT_.out (by kernel_rfl)) (fun _ _ _ h => h) (Or.inr ⟨by rfl, rfl⟩) ?_ ?_
          rotate_left
          ·simp only [Act.put, sqA, sqB, sqC, i64_w, i32_w]
           rfl
          refine pure_ (i := 27) (N := some 49) (v := undef) (a' := ?_) (bq 34 268435455) rfl rfl (any_of HT_.out (by kernel_rfl)) (fun _ _ _ h => h) (Or.inr ⟨by rfl, rfl⟩) ?_ ?_
          rotate_left
          ·simp only [Act.put, sqA, sqB, sqC, i64_w, i32_w]
           rfl
          refine pure_ (i := 28) (N := some 50) (v := undef) (a' := ?_) (bq 34 536870911) rfl rfl (any_of HT_.out (by kernel_rfl)) (fun _ _ _ h => h) (Or.inr ⟨by rfl, rfl⟩) ?_ ?_
          rotate_left
          ·simp only [Act.put, sqA, sqB, sqC, i64_w, i32_w]
           rfl
          refine pure_ (i := 29) (N := some 51) (v := undef) (a' := ?_) (bq 34 1073741823) rfl rfl (any_of HT_.out (by kernel_rfl)) (fun _ _ _ h => h) (Or.inr ⟨by rfl, rfl⟩) ?_ ?_
          rotate_left
          ·simp only [Act.put, sqA, sqB, sqC, i64_w, i32_w]
           rfl
          refine pure_ (i := 30) (N := some 52) (v := undef) (a' := ?_) (bq 34 2147483647) rfl rfl (any_of HT_.out (by kernel_rfl)) (fun _ _ _ h => h) (Or.inr ⟨by rfl, rfl⟩) ?_ ?_
          rotate_left
          ·simp only [Act.put, sqA, sqB, sqC, i64_w, i32_w]
           rfl
          refine pure_ (i := 31) (N := some 53) (v := undef) (a' := ?_) (bq 34 4294967295) rfl rfl (any_of HT_.out (by kernel_rfl)) (fun _ _ _ h => h) (Or.inr ⟨by rfl, rfl⟩) ?_ ?_
          rotate_left
          ·simp only [Act.put, sqA, sqB, sqC, i64_w, i32_w]
           rfl
          refine pure_ (i := 32) (N := some 54) (v := undef) (a' := ?_) (bq 34 8589934591) rfl rfl (any_of HT_.out (by kernel_rfl)) (fun _ _ _ h => h) (Or.inr ⟨by rfl, rfl⟩) ?_ ?_
          rotate_left
          ·simp only [Act.put, sqA, sqB, sqC, i64_w, i32_w]
           rfl
          refine pu 33 55 (bq 34 17179869183) ?_ rfl rfl (any_of HT_.out (by kernel_rfl)) (fun _ _ _ h => h) (by rfl) ?_ ?_ ?_ ?_
          rotate_left
          ·intro w'; go_simp; with_reducible rfl
          rotate_left
          ·simp only [Act.put, sqA, sqB, sqC, i64_w, i32_w]
           rfl
          refine done_ (done_of HT_.out (by kernel_rfl)) ?_
          try go_wp2
          go_ret
          exact ⟨by first | rfl | (simp [errW_none, errW_some] <;> rfl) | (simp [*, errW_none, errW_some] <;> rfl), by repeat (first | (with_reducible first | exact HB.out | apply below_alloc | apply pw_below_drewN | apply below_drew1 | refine below_set ?_ GE268.out | refine below_set ?_ GE270.out) | exact HB.out)⟩
        ·rw [if_neg c11] at H
         exact absurd H (by simp)
       ·rw [if_neg c10] at H
        exact absurd H (by simp)
      ·rw [if_neg c9] at H
       have c9b0 : decide (x17_2 < (l0_1.length : Int)) = false := decide_eq_false c9
       clear c9
       replace H := Option.bind_eq_some_iff.mp H
       obtain ⟨t280, A510, H⟩ := H
       replace H : (some t280) = some r := H
       have A51 := Aside0.mk A510
       clear A510
       obtain rfl := Option.some.inj H
       obtain ⟨Ao52, co52, eo52⟩ := Kd.R_slice HO_3.out
       subst eo52
       go_wp2_with (first | ((with_reducible refine gate_callee (f := 63) rfl ?_); refine goesL_ (some 63) rfl rfl Try.func63 (by kernel_rfl) rfl #[.slice Ao52 x3_2.length co52] rfl (by (try simp only [List.map_toArray, List.map_cons, List.map_nil]); first | done | rfl | (simp only [List.length_drop, List.length_take]; rfl)) ?_; (with_reducible refine (place_Covers.calls k2 _ _ x3_2 t280 _ ?side1 ?side2 A51.out).mono ?_); (case side1 => repeat (first | exact (Kd.R_reads' HO_3.out).2.2 | (with_reducible refine Kd.C_alloc ?_ _) | (with_reducible refine Kd.C_drewN ?_ _) | (with_reducible refine Kd.C_drew ?_))); (case side2 => exact (Kd.R_reads' HO_3.out).2.1); rintro e w53 ⟨rfl, hb⟩; refine ⟨_, rfl, ?_⟩; have n0_ := Aside0.mk (Kd.R_below (by (with_reducible repeat (first | apply Kd.R_alloc | apply Kd.R_drewN | apply Kd.R_drew)); exact HO_3.out) hb); have n1_ := Aside0.mk (blk_below (g := gb268) (o := .cells #[.int .i64 a0_0, .slice A0_1 l0_1.length c0_1] 45 (0, 0)) (by (with_reducible repeat (first | refine blk_drewN ?_ _ | refine blk_drew ?_ | refine blk_alloc ?_ _)); exact BK268.out) hb); have n2_ := Aside0.mk (below_step (by repeat (first | (with_reducible first | exact HB.out | apply below_alloc | apply pw_below_drewN | apply below_drew1 | refine below_set ?_ GE268.out) | exact HB.out)) hb); clear HO_3; clear BK268; clear HB; have HO_3 := n0_; have BK268 := n1_; have HB := n2_; clear n0_ n1_ n2_; (try clear hb); (try clear hb2); (try clear hk); (try clear hi)))
       go_ret
       exact ⟨by first | rfl | (simp [errW_none, errW_some] <;> rfl) | (simp [*, errW_none, errW_some] <;> rfl), by repeat (first | (with_reducible first | exact HB.out | apply below_alloc | apply pw_below_drewN | apply below_drew1 | refine below_set ?_ GE268.out) | exact HB.out)⟩

end Go.Proofs.Ytonedijkgddepaa.P
