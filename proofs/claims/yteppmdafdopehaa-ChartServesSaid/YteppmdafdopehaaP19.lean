-- Written by the session's own program (wip/tools/myprint.py), over the kit's printer. Lean checks it.
import Derived.Test.YteppmdafdopehaaP0
import Derived.Test.YteppmdafdopehaaP3
import Derived.Test.YteppmdafdopehaaP5
import Derived.Test.YteppmdafdopehaaP6
import Derived.Test.YteppmdafdopehaaP14
import Derived.Test.YteppmdafdopehaaP15
import Derived.Test.YteppmdafdopehaaP16
import Derived.Test.YteppmdafdopehaaP17
import Derived.Test.YteppmdafdopehaaGMove
import Derived.Test.YteppmdafdopehaaPServesDefs
namespace Go.Proofs.Yteppmdafdopehaa.P
open Go.RowKit Go.Proofs.YteppmdafdopehaaW.PrintWords Go.Proofs.YteppmdafdopehaaW.PrintLast Go.Proofs.YteppmdafdopehaaW.PrintMore
attribute [local go_sem] max2_int min2_int max_two min_two max_three min_three max_four min_four   -- for this text's walks alone
set_option linter.unusedVariables false
set_option linter.unusedSimpArgs false

open List (setIfInBounds_toArray set_cons_zero set_cons_succ)
theorem ak {p : Prop} (h : p) : Aside0 p := ⟨h⟩
abbrev ba := @below_alloc
abbrev bd := @pw_below_drewN
abbrev b1 := @below_drew1
abbrev bs := @below_set
abbrev kn := @blk_drewN
abbrev kd := @blk_drew
abbrev ka := @blk_alloc
abbrev ra := @Kd.R_alloc
abbrev rn := @Kd.R_drewN
abbrev rw1 := @Kd.R_drew
def racewaylaw15_ChartServes.T7 : Bool × List (List Nat × List Nat) := (true,[([], []), ([], []), ([], []), ([1, 2], [1, 2]), ([3], [3]), ([4], [4]), ([], []), ([], []), ([6, 7], [6, 7]), ([8], [8]), ([9], [9]), ([0, 5, 10], [0, 5, 10]), ([11], [11]), ([12], [12]), ([12], [12]), ([], []), ([15, 13, 11, 0, 1, 2, 3, 4, 5, 6, 7, 8, 9, 10, 11, 12, 13, 15], [13, 15]), ([14, 16, 0, 1, 2, 3, 4, 5, 6, 7, 8, 9, 10, 11, 12, 13, 14, 15, 16], [14])])
def racewaylaw15_ChartServes.B7 : List Nat := [0, 0, 0, 6, 14, 30, 0, 0, 192, 448, 960, 2047, 4095, 8191, 8191, 0, 49151, 131071]
theorem racewaylaw15_ChartServes.tab7 : rtab .any (opsOf Try.f4 7) = racewaylaw15_ChartServes.T7 := by kernel_rfl
theorem racewaylaw15_ChartServes.bits7 : waitsOk racewaylaw15_ChartServes.T7.2 racewaylaw15_ChartServes.B7 = true := by kernel_rfl
def racewaylaw15_ChartServes.T20 : Bool × List (List Nat × List Nat) := (true,[([], []), ([], []), ([], []), ([1, 2], [1, 2]), ([3], [3]), ([4], [4]), ([5], [5]), ([], []), ([], []), ([7, 8], [7, 8]), ([9], [9]), ([10], [10]), ([11], [11]), ([12], [12]), ([], []), ([], []), ([14, 15], [14, 15]), ([16], [16]), ([17], [17]), ([18], [18]), ([], []), ([], []), ([20, 21], [20, 21]), ([22], [22]), ([23], [23]), ([24], [24]), ([25], [25]), ([0, 6, 13, 19, 26], [0, 6, 13, 19, 26]), ([27], [27]), ([], [])])
def racewaylaw15_ChartServes.B20 : List Nat := [0, 0, 0, 6, 14, 30, 62, 0, 0, 384, 896, 1920, 3968, 8064, 0, 0, 49152, 114688, 245760, 507904, 0, 0, 3145728, 7340032, 15728640, 32505856, 66060288, 134217727, 268435455, 0]
theorem racewaylaw15_ChartServes.tab20 : rtab .any (opsOf Try.f4 20) = racewaylaw15_ChartServes.T20 := by kernel_rfl
theorem racewaylaw15_ChartServes.bits20 : waitsOk racewaylaw15_ChartServes.T20.2 racewaylaw15_ChartServes.B20 = true := by kernel_rfl
def racewaylaw15_ChartServes.T23 : Bool × List (List Nat × List Nat) := (true,[([], []), ([], []), ([0, 1], [0, 1]), ([], []), ([], []), ([3, 4, 2], [3, 4]), ([2, 5, 0, 1, 2], [2]), ([5, 6, 0, 1, 2, 3, 4, 5, 6], [5])])
def racewaylaw15_ChartServes.B23 : List Nat := [0, 0, 3, 0, 0, 31, 63, 127]
theorem racewaylaw15_ChartServes.tab23 : rtab .any (opsOf Try.f4 23) = racewaylaw15_ChartServes.T23 := by kernel_rfl
theorem racewaylaw15_ChartServes.bits23 : waitsOk racewaylaw15_ChartServes.T23.2 racewaylaw15_ChartServes.B23 = true := by kernel_rfl
set_option maxHeartbeats 8000000 in
set_option maxRecDepth 100000 in
theorem racewaylaw15_ChartServes.calls (k : Nat) (a0 : Int) (A1 : Option Addr) (c1 : Nat) (l1 : List (S39)) (a2 : Int) (r : Bool) (w : World) (hr1 : Kd.C k39 w A1 l1.length l1) (hc1 : l1.length ≤ c1) (h : racewaylaw15_ChartServes.f k a0 l1 a2 = some r) (hrt : Aside0 (r = true)) :
  Calls Try.prog 4 #[.int .i64 a0, .slice A1 l1.length c1, .int .i64 a2] w fun e w' => e = .returned (.bool r) ∧ Below w.heap.size w w' := by
 have hu24 := Try.underlying24
 have hu26 := Try.underlying26
 have hu43 := Try.underlying43
 have HR1 := Aside0.mk hr1
 have HC1 := Aside0.mk hc1
 clear hr1 hc1
 have HB := ak (Below.refl w.heap.size w)
 have H : ((chart_First.f k (wrap64 (1 + (Int.tmod (wrap64 ((Int.tmod a0 6) + 6)) 6)))).bind fun bt267 => (if bt267.2.2 = 0 then (racewaylaw15_ChartServes.l0 k l1 a2 0 bt267.1 bt267.2.1) else (some false))) = some r := h
 clear h
 replace H := Option.bind_eq_some_iff.mp H
 obtain ⟨⟨t267, t268, t271⟩, A40, H⟩ := H
 replace H : (if t271 = 0 then (racewaylaw15_ChartServes.l0 k l1 a2 0 t267 t268) else (some false)) = some r := H
 have A4 := Aside0.mk A40
 clear A40
 by_cases c5 : t271 = 0
 ·rw [if_pos c5] at H
  have c5b0 : (t271 == 0) = true := beq_iff_eq.mpr c5
  have c5b1 : (t271 != 0) = false := bne_eq_false_iff_eq.mpr c5
  clear c5
  have H' := Aside0.mk H
  clear H
  go_enter Try.func4, Try.ntmps4
  go_wp2_with (first | ((with_reducible refine gate_callee (f := 13) rfl ?_); refine goesL_ (some 26) rfl rfl Try.func13 (by kernel_rfl) rfl #[.int .i64 (wrap64 (1 + (Int.tmod (wrap64 ((Int.tmod a0 6) + 6)) 6)))] rfl (by (try simp only [List.map_toArray, List.map_cons, List.map_nil]); first | done | rfl | (simp only [List.length_drop, List.length_take]; rfl)) ?_; (with_reducible refine (chart_First.calls k (wrap64 (1 + (Int.tmod (wrap64 ((Int.tmod a0 6) + 6)) 6))) t267 t268 t271 _ A4.out).mono ?_); rintro e w6 ⟨v269, rfl, ho0, hb⟩; refine ⟨_, rfl, ?_⟩; have n0_ := ak (Kd.R_lower ho0 (below_size (by repeat (first | (with_reducible first | exact HB.out | apply ba | apply bd | apply b1) | exact HB.out)))); have n1_ := ak (below_step (by repeat (first | (with_reducible first | exact HB.out | apply ba | apply bd | apply b1) | exact HB.out)) hb); clear HB; have HO270 := n0_; have HB := n1_; clear n0_ n1_; (try clear hb); (try clear hb2); (try clear hk); (try clear hi); (try clear ho0)) | ((with_reducible refine gate_dst (N := 7) rfl ?_); refine box_event ?hg (N := 7) ?hd (cs := #[.int .i64 0, .slice none 0 0]) (t := 24) ?hr ?_; (case hd => rfl); (case hg => rfl); (case hr => first | (go_simp; done) | (go_simp; rfl)); intro gb272 hg w7 hbox hb; have n0_ := ak (Kd.R_below (by (with_reducible repeat (first | apply ra | apply rn | apply rw1)); exact HO270.out) hb); have n1_ := ak (below_step (by repeat (first | (with_reducible first | exact HB.out | apply ba | apply bd | apply b1) | exact HB.out)) hb); have n2_ := ak (hbox); have n3_ := ak ((by rw [hg]; exact (below_size (by repeat (first | (with_reducible first | exact HB.out | apply ba | apply bd | apply b1) | exact HB.out))) : w.heap.size ≤ gb272)); have n4_ := ak ((by rw [hg]; exact (below_size (by repeat (first | (with_reducible first | exact HB.out | apply ba | apply bd | apply b1) | exact HB.out))) : w.heap.size ≤ gb272)); clear HO270; clear HB; have HO270 := n0_; have HB := n1_; have BK272 := n2_; have GW272 := n3_; have GE272 := n4_; clear n0_ n1_ n2_ n3_ n4_; clear hb hbox hg; have hcz8_0 : w7.cell? ⟨gb272, 0, none⟩ = some (.int .i64 0) := (blk_cell BK272.out 0).trans rfl; have hcz8_1 : w7.cell? ⟨gb272, 1, none⟩ = some (.slice none 0 0) := (blk_cell BK272.out 1).trans rfl; have hfz8_0 := blk_frozen BK272.out 0; have hfz8_1 := blk_frozen BK272.out 1; obtain ⟨Ao9, co9, eo9⟩ := Kd.R_slice HO270.out; subst eo9))
  go_loopg [9] k (fun kq v9 w' => ∃ (x9_1 : Int) (xE : Int) (xL : List (S43)) (u273001 : Value), v9 = .int .i64 x9_1 ∧ Aside0 (racewaylaw15_ChartServes.l0 kq l1 a2 x9_1 xE xL = some r) ∧ Aside0 (kq ≤ k) ∧ Aside0 (Kd.R k43 43 w' w.heap.size (fun _ => True) u273001 xL) ∧ Aside0 (w'.heap[gb272]? = some (.cells #[.int .i64 xE, u273001] 24 (0, 0))) ∧ Aside0 (Below w.heap.size w w'))
  case atStart => exact ⟨(0), (t267), (t268), (.slice Ao9 t268.length co9), (by first | rfl | (simp; done) | (simp [*]; done)), H', ⟨Nat.le_refl _⟩, ⟨by (with_reducible repeat (first | apply ra | apply rn | apply rw1)); exact Kd.R_mono (Kd.R_far (p := ⟨gb272, 1, none⟩) (Kd.R_far (p := ⟨gb272, 0, none⟩) (Kd.R_types HO270.out BK272.out (by decide)) (fun _ hk => hk.2) (.int .i64 t267)) (fun _ hk => hk.2) (.slice Ao9 t268.length co9)) (fun _ hk => trivial)⟩, ⟨by (with_reducible repeat (first | refine kn ?_ _ | refine kd ?_ | refine ka ?_ _)); refine blk_put (cs := #[.int .i64 t267, .slice none 0 0]) ?_ 1 _ rfl; (with_reducible repeat (first | refine kn ?_ _ | refine kd ?_ | refine ka ?_ _)); refine blk_put (cs := #[.int .i64 0, .slice none 0 0]) ?_ 0 _ rfl; (with_reducible repeat (first | refine kn ?_ _ | refine kd ?_ | refine ka ?_ _)); exact BK272.out⟩, ⟨by repeat (first | (with_reducible first | exact HB.out | apply ba | apply bd | apply b1 | refine bs ?_ GE272.out) | exact HB.out)⟩⟩
  case round =>
   clear H'
   try clear c1
   try clear p2
   try clear c4
   try clear c5
   try clear c5b0
   try clear c5b1
   try clear p6
   try clear hcz8_0
   try clear hcz8_1
   try clear hfz8_0
   try clear hfz8_1
   obtain ⟨x9_1, xE, xL, u273001, rfl, HA, HK1, HoL, BK272, HB⟩ := hrel
   cases gk with
   | zero => exact absurd HA.out (by simp [racewaylaw15_ChartServes.l0])
   | succ k1 =>
    have H := HA.out
    clear HA
    simp only [racewaylaw15_ChartServes.l0] at H
    have HC10 := Aside0.mk H
    clear H
    go_upto_region 5 with (fail)
    go_cut [38] (fun v38 wc => ∃ (kq : Nat) (x38_9 : Bool), v38 = .bool x38_9 ∧ Aside0 (racewaylaw15_ChartServes.j1 kq l1 a2 x9_1 x38_9 xE xL = some r) ∧ Aside0 (kq ≤ k1) ∧ Aside0 (Kd.R k43 43 wc w.heap.size (fun _ => True) u273001 xL) ∧ Aside0 (wc.heap[gb272]? = some (.cells #[.int .i64 xE, u273001] 24 (0, 0))) ∧ Aside0 (Below w.heap.size w wc))
    case first =>
     have H := HC10.out
     clear HC10
     by_cases c11 : x9_1 < (l1.length : Int)
     ·rw [if_pos c11] at H
      have c11b0 : decide (x9_1 < (l1.length : Int)) = true := decide_eq_true c11
      clear c11
      (first | rw [c11b0] | (simp only [i64_w, i32_w]; rw [c11b0]) | skip)
      as_aux_lemma =>
       have H' := Aside0.mk H
       clear H
       go_wp2
       go_meet
       case rel => exact ⟨_, (decide (x9_1 < 30)), (by first | rfl | (simp; done) | (simp [*]; done)), H', ⟨by have := HK1.out; first | omega | exact Nat.le_refl _⟩, ⟨by (with_reducible repeat (first | apply ra | apply rn | apply rw1)); exact HoL.out⟩, ⟨by (with_reducible repeat (first | refine kn ?_ _ | refine kd ?_ | refine ka ?_ _)); exact BK272.out⟩, ⟨by repeat (first | (with_reducible first | exact HB.out | apply ba | apply bd | apply b1 | refine bs ?_ GE272.out) | exact HB.out)⟩⟩
     ·rw [if_neg c11] at H
      have c11b0 : decide (x9_1 < (l1.length : Int)) = false := decide_eq_false c11
      clear c11
      (first | rw [c11b0] | (simp only [i64_w, i32_w]; rw [c11b0]) | skip)
      as_aux_lemma =>
       have H' := Aside0.mk H
       clear H
       go_wp2
       go_meet
       case rel => exact ⟨_, (false), (by first | rfl | (simp; done) | (simp [*]; done)), H', ⟨by have := HK1.out; first | omega | exact Nat.le_refl _⟩, ⟨by (with_reducible repeat (first | apply ra | apply rn | apply rw1)); exact HoL.out⟩, ⟨by (with_reducible repeat (first | refine kn ?_ _ | refine kd ?_ | refine ka ?_ _)); exact BK272.out⟩, ⟨by repeat (first | (with_reducible first | exact HB.out | apply ba | apply bd | apply b1 | refine bs ?_ GE272.out) | exact HB.out)⟩⟩
    case rest =>
     clear HC10
     try clear c1
     try clear p2
     try clear c4
     try clear c5
     try clear c5b0
     try clear c5b1
     try clear p6
     try clear c11
     try clear c11b0
     try clear hcz8_0
     try clear hcz8_1
     try clear hfz8_0
     try clear hfz8_1
     try clear p2
     try clear p6
     obtain ⟨kq, x38_9, rfl, HA, HJ9, HoL, BK272, HB⟩ := hcut
     cases kq with
     | zero => exact absurd HA.out (by simp [racewaylaw15_ChartServes.j1])
     | succ kj9 =>
      have H := HA.out
      clear HA
      simp only [racewaylaw15_ChartServes.j1] at H
      by_cases c12 : x38_9 = true
      ·subst c12
       have H1 : (if 0 ≤ x9_1 then (if x9_1 < (l1.length : Int) then ((chart_Move.f kj9 xE xL ((rd_T39 l1 x9_1).f0.f0) ((rd_T39 l1 x9_1).f0.f1) ((rd_T39 l1 x9_1).f1)).bind fun bt275 => (if bt275.2.2 = 0 then (racewaylaw15_ChartServes.l1 kj9 l1 a2 x9_1 ([] : List (S26)) bt275.2.1 (bt275.2.1.length : Int) 0 xE xL bt275.1 bt275.2.1) else ((place_May.f ((rd_T39 l1 x9_1).f0.f0) ((rd_T39 l1 x9_1).f0.f1)).bind fun t282 => (if t282 = true then (if ((rd_T39 l1 x9_1).f1) ≥ 1 then (racewaylaw15_ChartServes.j2 kj9 l1 a2 x9_1 (decide (((rd_T39 l1 x9_1).f1) ≤ 6)) xE xL) else (racewaylaw15_ChartServes.j2 kj9 l1 a2 x9_1 false xE xL)) else (racewaylaw15_ChartServes.j2 kj9 l1 a2 x9_1 false xE xL))))) else (none)) else (none)) = some r := by rw [if_pos rfl] at H; exact H
       clear H
       have H := H1
       clear H1
       by_cases c13 : 0 ≤ x9_1
       ·rw [if_pos c13] at H
        have c13b0 : decide (0 ≤ x9_1) = true := decide_eq_true c13
        clear c13
        by_cases c14 : x9_1 < (l1.length : Int)
        ·rw [if_pos c14] at H
         have c14b0 : decide (x9_1 < (l1.length : Int)) = true := decide_eq_true c14
         clear c14
         replace H := Option.bind_eq_some_iff.mp H
         obtain ⟨⟨t275, t276, t279⟩, A150, H⟩ := H
         replace H : (if t279 = 0 then (racewaylaw15_ChartServes.l1 kj9 l1 a2 x9_1 ([] : List (S26)) t276 (t276.length : Int) 0 xE xL t275 t276) else ((place_May.f ((rd_T39 l1 x9_1).f0.f0) ((rd_T39 l1 x9_1).f0.f1)).bind fun t282 => (if t282 = true then (if ((rd_T39 l1 x9_1).f1) ≥ 1 then (racewaylaw15_ChartServes.j2 kj9 l1 a2 x9_1 (decide (((rd_T39 l1 x9_1).f1) ≤ 6)) xE xL) else (racewaylaw15_ChartServes.j2 kj9 l1 a2 x9_1 false xE xL)) else (racewaylaw15_ChartServes.j2 kj9 l1 a2 x9_1 false xE xL)))) = some r := H
         have A15 := Aside0.mk A150
         clear A150
         by_cases c16 : t279 = 0
         ·rw [if_pos c16] at H
          have c16b0 : (t279 == 0) = true := beq_iff_eq.mpr c16
          have c16b1 : (t279 != 0) = false := bne_eq_false_iff_eq.mpr c16
          clear c16
          have H' := Aside0.mk H
          clear H
          obtain ⟨Ao17, co17, eo17⟩ := Kd.R_slice HoL.out
          subst eo17
          try go_wp2
          have n0_ := ak (rw1 HoL.out)
          have n1_ := ak (kd BK272.out)
          have n2_ := ak (b1 HB.out)
          clear HoL
          clear BK272
          clear HB
          have HoL := n0_
          have BK272 := n1_
          have HB := n2_
          clear n0_ n1_ n2_
          have p273 : 0 ≤ (x9_1 : Int) := of_decide_eq_true (by first | (with_reducible assumption) | assumption)
          have q273 : x9_1 < (l1.length : Int) := of_decide_eq_true (by first | (with_reducible assumption) | assumption)
          obtain ⟨ad273, e273, hx273_0, hx273_1, hx273_2⟩ := at_T39 HR1.out x9_1 p273 q273
          have hw273_2 := hx273_2
          have hw273_1 := hx273_1
          have hw273_0 := hx273_0
          cases e273
          replace hx273_0 := pw_cell_below HB.out hx273_0
          replace hx273_1 := pw_cell_below HB.out hx273_1
          replace hx273_2 := pw_cell_below HB.out hx273_2
          replace p273 := eq_true p273
          replace q273 := eq_true q273
          have p274 : 0 ≤ (x9_1 : Int) := of_decide_eq_true (by first | (with_reducible assumption) | assumption)
          have q274 : x9_1 < (l1.length : Int) := of_decide_eq_true (by first | (with_reducible assumption) | assumption)
          obtain ⟨ad274, e274, hx274_0, hx274_1, hx274_2⟩ := at_T39 HR1.out x9_1 p274 q274
          have hw274_2 := hx274_2
          have hw274_1 := hx274_1
          have hw274_0 := hx274_0
          obtain rfl : ad273 = ad274 := (by injection e274)
          replace hx274_0 := pw_cell_below HB.out hx274_0
          replace hx274_1 := pw_cell_below HB.out hx274_1
          replace hx274_2 := pw_cell_below HB.out hx274_2
          replace p274 := eq_true p274
          replace q274 := eq_true q274
          refine start_ (n := 18) (S := fun w' => w'.cell? ⟨gb272, 0, none⟩ = some (.int .i64 xE) ∧ w'.cell? ⟨gb272, 1, none⟩ = some (.slice Ao17 xL.length co17) ∧ w'.cell? (ad273.add ((x9_1).toNat * 3)) = some (.int .i64 ((rd_T39 l1 x9_1).f0.f0)) ∧ w'.cell? ⟨(ad273.add ((x9_1).toNat * 3)).block, (ad273.add ((x9_1).toNat * 3)).off + 1, none⟩ = some (.int .i64 ((rd_T39 l1 x9_1).f0.f1)) ∧ w'.cell? ⟨(ad273.add ((x9_1).toNat * 3)).block, (ad273.add ((x9_1).toNat * 3)).off + 2, none⟩ = some (.int .i64 ((rd_T39 l1 x9_1).f1)) ∧ w'.cell? (ad273.add ((x9_1).toNat * 3)) = some (.int .i64 ((rd_T39 l1 x9_1).f0.f0)) ∧ w'.cell? ⟨(ad273.add ((x9_1).toNat * 3)).block, (ad273.add ((x9_1).toNat * 3)).off + 1, none⟩ = some (.int .i64 ((rd_T39 l1 x9_1).f0.f1)) ∧ w'.cell? ⟨(ad273.add ((x9_1).toNat * 3)).block, (ad273.add ((x9_1).toNat * 3)).off + 2, none⟩ = some (.int .i64 ((rd_T39 l1 x9_1).f1))) (ds := []) #[false,false,false,false,false,false,false,false,false,false,false,false,false,false,false,false,false,false] (by kernel_rfl) rfl rfl ⟨(blk_cell BK272.out 0).trans rfl, (blk_cell BK272.out 1).trans rfl, (pw_cell_below HB.out hw273_0), (pw_cell_below HB.out hw273_1), (pw_cell_below HB.out hw273_2), (pw_cell_below HB.out hw274_0), (pw_cell_below HB.out hw274_1), (pw_cell_below HB.out hw274_2)⟩ (fun hHeld => ?_); refine with_tabW racewaylaw15_ChartServes.tab7 racewaylaw15_ChartServes.bits7 (fun HT_ HW_ => ?_)
          generalize wc.drew = w18 at HoL BK272 HB hx273_0 hx273_1 hx273_2 hx274_0 hx274_1 hx274_2 hHeld ⊢
          refine pure_ (i := 1) (N := some 43) (v := ?_) (a' := ?_) #[false,true,false,false,false,false,false,false,false,false,false,false,false,false,false,false,false,false] rfl rfl (any_of HT_.out (by kernel_rfl)) (fun _ _ _ h => h) (Or.inl ⟨by rfl, ?_⟩) ?_ ?_
          rotate_left
          ·intro w'
           go_simp
           with_reducible rfl
          rotate_left
          ·simp only [Act.put, setIfInBounds_toArray, set_cons_zero, set_cons_succ, i64_w, i32_w]
           rfl
          refine pure_ (i := 2) (N := some 44) (v := ?_) (a' := ?_) #[false,true,true,false,false,false,false,false,false,false,false,false,false,false,false,false,false,false] rfl rfl (any_of HT_.out (by kernel_rfl)) (fun _ _ _ h => h) (Or.inl ⟨by rfl, ?_⟩) ?_ ?_
          rotate_left
          ·intro w'
           go_simp
           with_reducible rfl
          rotate_left
          ·simp only [Act.put, setIfInBounds_toArray, set_cons_zero, set_cons_succ, i64_w, i32_w]
           rfl
          refine pure_ (i := 3) (N := some 45) (v := ?_) (a' := ?_) #[false,true,true,true,false,false,false,false,false,false,false,false,false,false,false,false,false,false] rfl rfl (any_of HT_.out (by kernel_rfl)) (fun _ _ _ h => h) (Or.inl ⟨by rfl, ?_⟩) ?_ ?_
          rotate_left
          ·intro w'
           go_simp
           with_reducible rfl
          rotate_left
          ·simp only [Act.put, setIfInBounds_toArray, set_cons_zero, set_cons_succ, i64_w, i32_w]
           rfl
          refine pure_ (i := 4) (N := some 46) (v := ?_) (a' := ?_) #[false,true,true,true,true,false,false,false,false,false,false,false,false,false,false,false,false,false] rfl rfl (any_of HT_.out (by kernel_rfl)) (fun _ _ _ h => h) (Or.inl ⟨by rfl, ?_⟩) ?_ ?_
          rotate_left
          ·intro w'
           go_simp
           with_reducible rfl
          rotate_left
          ·simp only [Act.put, setIfInBounds_toArray, set_cons_zero, set_cons_succ, i64_w, i32_w]
           rfl
          refine pure_ (i := 6) (N := some 48) (v := ?_) (a' := ?_) #[false,true,true,true,true,false,true,false,false,false,false,false,false,false,false,false,false,false] rfl rfl (any_of HT_.out (by kernel_rfl)) (fun _ _ _ h => h) (Or.inl ⟨by rfl, ?_⟩) ?_ ?_
          rotate_left
          ·intro w'
           go_simp
           with_reducible rfl
          rotate_left
          ·simp only [Act.put, setIfInBounds_toArray, set_cons_zero, set_cons_succ, i64_w, i32_w]
           rfl
          refine pure_ (i := 7) (N := some 49) (v := ?_) (a' := ?_) #[false,true,true,true,true,false,true,true,false,false,false,false,false,false,false,false,false,false] rfl rfl (any_of HT_.out (by kernel_rfl)) (fun _ _ _ h => h) (Or.inl ⟨by rfl, ?_⟩) ?_ ?_
          rotate_left
          ·intro w'
           go_simp
           with_reducible rfl
          rotate_left
          ·simp only [Act.put, setIfInBounds_toArray, set_cons_zero, set_cons_succ, i64_w, i32_w]
           rfl
          refine pure_ (i := 8) (N := some 50) (v := ?_) (a' := ?_) #[false,true,true,true,true,false,true,true,true,false,false,false,false,false,false,false,false,false] rfl rfl (any_of HT_.out (by kernel_rfl)) (fun _ _ _ h => h) (Or.inl ⟨by rfl, ?_⟩) ?_ ?_
          rotate_left
          ·intro w'
           go_simp
           with_reducible rfl
          rotate_left
          ·simp only [Act.put, setIfInBounds_toArray, set_cons_zero, set_cons_succ, i64_w, i32_w]
           rfl
          refine pure_ (i := 9) (N := some 51) (v := ?_) (a' := ?_) #[false,true,true,true,true,false,true,true,true,true,false,false,false,false,false,false,false,false] rfl rfl (any_of HT_.out (by kernel_rfl)) (fun _ _ _ h => h) (Or.inl ⟨by rfl, ?_⟩) ?_ ?_
          rotate_left
          ·intro w'
           go_simp
           with_reducible rfl
          rotate_left
          ·simp only [Act.put, setIfInBounds_toArray, set_cons_zero, set_cons_succ, i64_w, i32_w]
           rfl
          refine take_ (i := 0) (N := some 42) (v := ?_) (a' := ?_) #[true,true,true,true,true,false,true,true,true,true,false,false,false,false,false,false,false,false] rfl rfl (take_ofW HT_.out HW_.out (by kernel_rfl)) (fun _ _ _ h => h) (Or.inl ⟨by rfl, ?_⟩) hHeld ?_ ?_
          rotate_left
          ·rintro w' ⟨s0, s1, s2, s3, s4, s5, s6, s7⟩
           go_simp
           with_reducible rfl
          rotate_left
          ·simp only [Act.put, setIfInBounds_toArray, set_cons_zero, set_cons_succ, i64_w, i32_w]
           rfl
          refine take_ (i := 5) (N := some 47) (v := ?_) (a' := ?_) #[true,true,true,true,true,true,true,true,true,true,false,false,false,false,false,false,false,false] rfl rfl (take_ofW HT_.out HW_.out (by kernel_rfl)) (fun _ _ _ h => h) (Or.inl ⟨by rfl, ?_⟩) hHeld ?_ ?_
          rotate_left
          ·rintro w' ⟨s0, s1, s2, s3, s4, s5, s6, s7⟩
           go_simp
           with_reducible rfl
          rotate_left
          ·simp only [Act.put, setIfInBounds_toArray, set_cons_zero, set_cons_succ, i64_w, i32_w]
           rfl
          refine take_ (i := 10) (N := some 52) (v := ?_) (a' := ?_) #[true,true,true,true,true,true,true,true,true,true,true,false,false,false,false,false,false,false] rfl rfl (take_ofW HT_.out HW_.out (by kernel_rfl)) (fun _ _ _ h => h) (Or.inl ⟨by rfl, ?_⟩) hHeld ?_ ?_
          rotate_left
          ·rintro w' ⟨s0, s1, s2, s3, s4, s5, s6, s7⟩
           go_simp
           with_reducible rfl
          rotate_left
          ·simp only [Act.put, setIfInBounds_toArray, set_cons_zero, set_cons_succ, i64_w, i32_w]
           rfl
          refine join_ (σ := Value × Nat) 2 #[true,true,true,true,true,true,true,true,true,true,true,true,true,true,true,true,false,false] (fun s_ => [(53, .tuple #[.agg #[.int .i64 t275, s_.1], .int .i64 t279]), (10, .pointer (some ⟨s_.2, 0, none⟩)), (41, .tuple #[.agg #[.int .i64 t275, s_.1], .int .i64 t279]), (54, .agg #[.int .i64 t275, s_.1]), (55, .int .i64 t279)]) (fun s_ w' => (w'.cell? ⟨gb272, 0, none⟩ = some (.int .i64 xE) ∧ w'.cell? ⟨gb272, 1, none⟩ = some (.slice Ao17 xL.length co17) ∧ w'.cell? (ad273.add ((x9_1).toNat * 3)) = some (.int .i64 ((rd_T39 l1 x9_1).f0.f0)) ∧ w'.cell? ⟨(ad273.add ((x9_1).toNat * 3)).block, (ad273.add ((x9_1).toNat * 3)).off + 1, none⟩ = some (.int .i64 ((rd_T39 l1 x9_1).f0.f1)) ∧ w'.cell? ⟨(ad273.add ((x9_1).toNat * 3)).block, (ad273.add ((x9_1).toNat * 3)).off + 2, none⟩ = some (.int .i64 ((rd_T39 l1 x9_1).f1)) ∧ w'.cell? (ad273.add ((x9_1).toNat * 3)) = some (.int .i64 ((rd_T39 l1 x9_1).f0.f0)) ∧ w'.cell? ⟨(ad273.add ((x9_1).toNat * 3)).block, (ad273.add ((x9_1).toNat * 3)).off + 1, none⟩ = some (.int .i64 ((rd_T39 l1 x9_1).f0.f1)) ∧ w'.cell? ⟨(ad273.add ((x9_1).toNat * 3)).block, (ad273.add ((x9_1).toNat * 3)).off + 2, none⟩ = some (.int .i64 ((rd_T39 l1 x9_1).f1))) ∧ (Kd.R k43 43 w' w.heap.size (fun k_ => some k_ ≠ (.slice Ao17 xL.length co17 : Value).ownBlock) s_.1 t276) ∧ (Kd.R k43 43 w' w.heap.size (fun k_ => some k_ ≠ (s_.1 : Value).ownBlock) (.slice Ao17 xL.length co17) xL) ∧ (w'.heap[gb272]? = some (.cells #[.int .i64 xE, .slice Ao17 xL.length co17] 24 (0, 0))) ∧ (w'.heap[s_.2]? = some (.cells #[.int .i64 0, .slice none 0 0] 24 (0, 0))) ∧ (w.heap.size ≤ s_.2) ∧ (w.heap.size ≤ s_.2) ∧ (gb272 ≠ s_.2) ∧ (s_.2 ≠ gb272) ∧ (Below w.heap.size w w')) ?_ ?_
          rotate_left
          ·intro hCont
           refine two_ (i := 11) (j := 15) (Ni := some 53) (Nj := some 10) #[true,true,true,true,true,true,true,true,true,true,true,true,false,false,false,false,false,false] #[true,true,true,true,true,true,true,true,true,true,true,false,false,false,false,true,false,false] rfl rfl rfl rfl (two_of HT_.out (by kernel_rfl)) (by decide) (by decide) (fun K hK => ?_) (fun K hK => ?_)
           ·skip
            refine goes_ Try.func8 (by kernel_rfl) rfl #[.agg #[.int .i64 xE, .slice Ao17 xL.length co17], .agg #[.int .i64 ((rd_T39 l1 x9_1).f0.f0), .int .i64 ((rd_T39 l1 x9_1).f0.f1)], .int .i64 ((rd_T39 l1 x9_1).f1)] (by rfl) rfl rfl (by (try simp only [List.map_toArray, List.map_cons, List.map_nil]); first | done | rfl | (simp only [List.length_drop, List.length_take]; rfl)) ?_
            with_reducible refine (chart_Move.calls kj9 xE _ _ xL ((rd_T39 l1 x9_1).f0.f0) ((rd_T39 l1 x9_1).f0.f1) ((rd_T39 l1 x9_1).f1) t275 t276 t279 _ ?side1 ?side2 A15.out).mono ?_
            (case side1 => repeat (first | exact (Kd.R_reads' HoL.out).2.2 | (with_reducible refine Kd.C_alloc ?_ _) | (with_reducible refine Kd.C_drewN ?_ _) | (with_reducible refine Kd.C_drew ?_)))
            (case side2 => exact (Kd.R_reads' HoL.out).2.1)
            rintro e w19 ⟨v277, rfl, ho0, hb⟩
            refine ⟨_, rfl, ?_⟩
            have n0_ := ak (Kd.R_elder' (by (with_reducible repeat (first | apply ra | apply rn | apply rw1)); exact HoL.out) (Kd.R_base ho0) hb)
            have n1_ := ak (Kd.R_lower (Kd.R_new' ho0 (Kd.R_lt (by (with_reducible repeat (first | apply ra | apply rn | apply rw1)); exact HoL.out))) (below_size (by repeat (first | (with_reducible first | exact HB.out | apply ba | apply bd | apply b1 | refine bs ?_ GE272.out) | exact HB.out))))
            have n2_ := ak (blk_below (g := gb272) (o := .cells #[.int .i64 xE, .slice Ao17 xL.length co17] 24 (0, 0)) (by (with_reducible repeat (first | refine kn ?_ _ | refine kd ?_ | refine ka ?_ _)); exact BK272.out) hb)
            have n3_ := ak (below_step (by repeat (first | (with_reducible first | exact HB.out | apply ba | apply bd | apply b1 | refine bs ?_ GE272.out) | exact HB.out)) hb)
            clear HoL
            clear BK272
            clear HB
            have HoL := n0_
            have HO278 := n1_
            have BK272 := n2_
            have HB := n3_
            clear n0_ n1_ n2_ n3_
            (try clear hb)
            (try clear hb2)
            (try clear hk)
            (try clear hi)
            (try clear ho0)
            refine hK.out _ _ ⟨(blk_cell BK272.out 0).trans rfl, (blk_cell BK272.out 1).trans rfl, (pw_cell_below HB.out hw273_0), (pw_cell_below HB.out hw273_1), (pw_cell_below HB.out hw273_2), (pw_cell_below HB.out hw274_0), (pw_cell_below HB.out hw274_1), (pw_cell_below HB.out hw274_2)⟩ (fun hHeld => ?_)
            clear hK K
            refine norm_ (a' := ?_) ?_ ?_
            rotate_left
            ·show Act.put _ (some 53) _ = _
             simp only [Act.put, setIfInBounds_toArray, set_cons_zero, set_cons_succ, i64_w, i32_w]
             rfl
            refine pure_ (i := 12) (N := some 41) (v := ?_) (a' := ?_) #[true,true,true,true,true,true,true,true,true,true,true,true,true,false,false,false,false,false] rfl rfl (any_of HT_.out (by kernel_rfl)) (fun _ _ _ h => h) (Or.inl ⟨by rfl, ?_⟩) ?_ ?_
            rotate_left
            ·intro w'
             go_simp
             with_reducible rfl
            rotate_left
            ·simp only [Act.put, setIfInBounds_toArray, set_cons_zero, set_cons_succ, i64_w, i32_w]
             rfl
            refine pure_ (i := 13) (N := some 54) (v := ?_) (a' := ?_) #[true,true,true,true,true,true,true,true,true,true,true,true,true,true,false,false,false,false] rfl rfl (any_of HT_.out (by kernel_rfl)) (fun _ _ _ h => h) (Or.inl ⟨by rfl, ?_⟩) ?_ ?_
            rotate_left
            ·intro w'
             go_simp
             with_reducible rfl
            rotate_left
            ·simp only [Act.put, setIfInBounds_toArray, set_cons_zero, set_cons_succ, i64_w, i32_w]
             rfl
            refine pure_ (i := 14) (N := some 55) (v := ?_) (a' := ?_) #[true,true,true,true,true,true,true,true,true,true,true,true,true,true,true,false,false,false] rfl rfl (any_of HT_.out (by kernel_rfl)) (fun _ _ _ h => h) (Or.inl ⟨by rfl, ?_⟩) ?_ ?_
            rotate_left
            ·intro w'
             go_simp
             with_reducible rfl
            rotate_left
            ·simp only [Act.put, setIfInBounds_toArray, set_cons_zero, set_cons_succ, i64_w, i32_w]
             rfl
            refine one_ (i := 15) (N := some 10) #[true,true,true,true,true,true,true,true,true,true,true,true,true,true,true,true,false,false] rfl rfl (one_of HT_.out (by kernel_rfl)) (by decide) (fun K hK => ?_)
            refine box_step ?hg (N := 10) ?hd (cs := #[.int .i64 0, .slice none 0 0]) (t := 24) ?hr ?_; (case hd => rfl); (case hg => rfl); (case hr => first | (go_simp; done) | (go_simp; rfl))
            intro gb280 hg w20 hbox hb
            have n0_ := ak (Kd.R_below (by (with_reducible repeat (first | apply ra | apply rn | apply rw1)); exact HoL.out) hb)
            have n1_ := ak (Kd.R_below (by (with_reducible repeat (first | apply ra | apply rn | apply rw1)); exact HO278.out) hb)
            have n2_ := ak (blk_below (g := gb272) (o := .cells #[.int .i64 xE, .slice Ao17 xL.length co17] 24 (0, 0)) (by (with_reducible repeat (first | refine kn ?_ _ | refine kd ?_ | refine ka ?_ _)); exact BK272.out) hb)
            have n3_ := ak (below_step (by repeat (first | (with_reducible first | exact HB.out | apply ba | apply bd | apply b1 | refine bs ?_ GE272.out) | exact HB.out)) hb)
            have n4_ := ak (hbox)
            have n5_ := ak ((by rw [hg]; exact (below_size (by repeat (first | (with_reducible first | exact HB.out | apply ba | apply bd | apply b1 | refine bs ?_ GE272.out) | exact HB.out))) : w.heap.size ≤ gb280))
            have n6_ := ak ((by rw [hg]; exact (below_size (by repeat (first | (with_reducible first | exact HB.out | apply ba | apply bd | apply b1 | refine bs ?_ GE272.out) | exact HB.out))) : w.heap.size ≤ gb280))
            have n7_ := ak ((by rw [hg]; exact Nat.ne_of_lt (blk_lt (g := gb272) (o := .cells #[.int .i64 xE, .slice Ao17 xL.length co17] 24 (0, 0)) (by (with_reducible repeat (first | refine kn ?_ _ | refine kd ?_ | refine ka ?_ _)); exact BK272.out)) : gb272 ≠ gb280))
            have n8_ := ak ((by rw [hg]; exact Nat.ne_of_gt (blk_lt (g := gb272) (o := .cells #[.int .i64 xE, .slice Ao17 xL.length co17] 24 (0, 0)) (by (with_reducible repeat (first | refine kn ?_ _ | refine kd ?_ | refine ka ?_ _)); exact BK272.out)) : gb280 ≠ gb272))
            clear HoL
            clear HO278
            clear BK272
            clear HB
            have HoL := n0_
            have HO278 := n1_
            have BK272 := n2_
            have HB := n3_
            have BK280 := n4_
            have GW280 := n5_
            have GE280 := n6_
            have NB272_280 := n7_
            have NB280_272 := n8_
            clear n0_ n1_ n2_ n3_ n4_ n5_ n6_ n7_ n8_
            clear hb hbox hg
            refine hK.out _ _ ⟨(blk_cell BK272.out 0).trans rfl, (blk_cell BK272.out 1).trans rfl, (pw_cell_below HB.out hw273_0), (pw_cell_below HB.out hw273_1), (pw_cell_below HB.out hw273_2), (pw_cell_below HB.out hw274_0), (pw_cell_below HB.out hw274_1), (pw_cell_below HB.out hw274_2)⟩ (fun hHeld => ?_)
            clear hK K
            refine norm_ (a' := ?_) ?_ ?_
            rotate_left
            ·show Act.put _ (some 10) _ = _
             simp only [Act.put, setIfInBounds_toArray, set_cons_zero, set_cons_succ, i64_w, i32_w]
             rfl
            exact norm_ (by simp only [putAll, Act.put, setIfInBounds_toArray, set_cons_zero, set_cons_succ]) (hCont (v277, gb280) _ ⟨hHeld, (by (with_reducible repeat (first | apply ra | apply rn | apply rw1)); exact Kd.R_mono HO278.out (fun _ hk => hk.2)), (by (with_reducible repeat (first | apply ra | apply rn | apply rw1)); exact Kd.R_mono HoL.out (fun _ hk => hk.2)), (by (with_reducible repeat (first | refine kn ?_ _ | refine kd ?_ | refine ka ?_ _)); exact BK272.out), (by (with_reducible repeat (first | refine kn ?_ _ | refine kd ?_ | refine ka ?_ _)); exact BK280.out), GW280.out, GE280.out, NB272_280.out, NB280_272.out, (by repeat (first | (with_reducible first | exact HB.out | apply ba | apply bd | apply b1 | refine bs ?_ GE272.out | refine bs ?_ GE280.out) | exact HB.out))⟩)
           ·skip
            refine box_step ?hg (N := 10) ?hd (cs := #[.int .i64 0, .slice none 0 0]) (t := 24) ?hr ?_; (case hd => rfl); (case hg => rfl); (case hr => first | (go_simp; done) | (go_simp; rfl))
            intro gb280 hg w19 hbox hb
            have n0_ := ak (Kd.R_below (by (with_reducible repeat (first | apply ra | apply rn | apply rw1)); exact HoL.out) hb)
            have n1_ := ak (blk_below (g := gb272) (o := .cells #[.int .i64 xE, .slice Ao17 xL.length co17] 24 (0, 0)) (by (with_reducible repeat (first | refine kn ?_ _ | refine kd ?_ | refine ka ?_ _)); exact BK272.out) hb)
            have n2_ := ak (below_step (by repeat (first | (with_reducible first | exact HB.out | apply ba | apply bd | apply b1 | refine bs ?_ GE272.out) | exact HB.out)) hb)
            have n3_ := ak (hbox)
            have n4_ := ak ((by rw [hg]; exact (below_size (by repeat (first | (with_reducible first | exact HB.out | apply ba | apply bd | apply b1 | refine bs ?_ GE272.out) | exact HB.out))) : w.heap.size ≤ gb280))
            have n5_ := ak ((by rw [hg]; exact (below_size (by repeat (first | (with_reducible first | exact HB.out | apply ba | apply bd | apply b1 | refine bs ?_ GE272.out) | exact HB.out))) : w.heap.size ≤ gb280))
            have n6_ := ak ((by rw [hg]; exact Nat.ne_of_lt (blk_lt (g := gb272) (o := .cells #[.int .i64 xE, .slice Ao17 xL.length co17] 24 (0, 0)) (by (with_reducible repeat (first | refine kn ?_ _ | refine kd ?_ | refine ka ?_ _)); exact BK272.out)) : gb272 ≠ gb280))
            have n7_ := ak ((by rw [hg]; exact Nat.ne_of_gt (blk_lt (g := gb272) (o := .cells #[.int .i64 xE, .slice Ao17 xL.length co17] 24 (0, 0)) (by (with_reducible repeat (first | refine kn ?_ _ | refine kd ?_ | refine ka ?_ _)); exact BK272.out)) : gb280 ≠ gb272))
            clear HoL
            clear BK272
            clear HB
            have HoL := n0_
            have BK272 := n1_
            have HB := n2_
            have BK280 := n3_
            have GW280 := n4_
            have GE280 := n5_
            have NB272_280 := n6_
            have NB280_272 := n7_
            clear n0_ n1_ n2_ n3_ n4_ n5_ n6_ n7_
            clear hb hbox hg
            refine hK.out _ _ ⟨(blk_cell BK272.out 0).trans rfl, (blk_cell BK272.out 1).trans rfl, (pw_cell_below HB.out hw273_0), (pw_cell_below HB.out hw273_1), (pw_cell_below HB.out hw273_2), (pw_cell_below HB.out hw274_0), (pw_cell_below HB.out hw274_1), (pw_cell_below HB.out hw274_2)⟩ (fun hHeld => ?_)
            clear hK K
            refine norm_ (a' := ?_) ?_ ?_
            rotate_left
            ·show Act.put _ (some 10) _ = _
             simp only [Act.put, setIfInBounds_toArray, set_cons_zero, set_cons_succ, i64_w, i32_w]
             rfl
            refine one_ (i := 11) (N := some 53) #[true,true,true,true,true,true,true,true,true,true,true,true,false,false,false,true,false,false] rfl rfl (one_of HT_.out (by kernel_rfl)) (by decide) (fun K hK => ?_)
            refine goes_ Try.func8 (by kernel_rfl) rfl #[.agg #[.int .i64 xE, .slice Ao17 xL.length co17], .agg #[.int .i64 ((rd_T39 l1 x9_1).f0.f0), .int .i64 ((rd_T39 l1 x9_1).f0.f1)], .int .i64 ((rd_T39 l1 x9_1).f1)] (by rfl) rfl rfl (by (try simp only [List.map_toArray, List.map_cons, List.map_nil]); first | done | rfl | (simp only [List.length_drop, List.length_take]; rfl)) ?_
            with_reducible refine (chart_Move.calls kj9 xE _ _ xL ((rd_T39 l1 x9_1).f0.f0) ((rd_T39 l1 x9_1).f0.f1) ((rd_T39 l1 x9_1).f1) t275 t276 t279 _ ?side1 ?side2 A15.out).mono ?_
            (case side1 => repeat (first | exact (Kd.R_reads' HoL.out).2.2 | (with_reducible refine Kd.C_alloc ?_ _) | (with_reducible refine Kd.C_drewN ?_ _) | (with_reducible refine Kd.C_drew ?_)))
            (case side2 => exact (Kd.R_reads' HoL.out).2.1)
            rintro e w20 ⟨v277, rfl, ho0, hb⟩
            refine ⟨_, rfl, ?_⟩
            have n0_ := ak (Kd.R_elder' (by (with_reducible repeat (first | apply ra | apply rn | apply rw1)); exact HoL.out) (Kd.R_base ho0) hb)
            have n1_ := ak (Kd.R_lower (Kd.R_new' ho0 (Kd.R_lt (by (with_reducible repeat (first | apply ra | apply rn | apply rw1)); exact HoL.out))) (below_size (by repeat (first | (with_reducible first | exact HB.out | apply ba | apply bd | apply b1 | refine bs ?_ GE272.out | refine bs ?_ GE280.out) | exact HB.out))))
            have n2_ := ak (blk_below (g := gb272) (o := .cells #[.int .i64 xE, .slice Ao17 xL.length co17] 24 (0, 0)) (by (with_reducible repeat (first | refine kn ?_ _ | refine kd ?_ | refine ka ?_ _)); exact BK272.out) hb)
            have n3_ := ak (blk_below (g := gb280) (o := .cells #[.int .i64 0, .slice none 0 0] 24 (0, 0)) (by (with_reducible repeat (first | refine kn ?_ _ | refine kd ?_ | refine ka ?_ _)); exact BK280.out) hb)
            have n4_ := ak (below_step (by repeat (first | (with_reducible first | exact HB.out | apply ba | apply bd | apply b1 | refine bs ?_ GE272.out | refine bs ?_ GE280.out) | exact HB.out)) hb)
            clear HoL
            clear BK272
            clear BK280
            clear HB
            have HoL := n0_
            have HO278 := n1_
            have BK272 := n2_
            have BK280 := n3_
            have HB := n4_
            clear n0_ n1_ n2_ n3_ n4_
            (try clear hb)
            (try clear hb2)
            (try clear hk)
            (try clear hi)
            (try clear ho0)
            refine hK.out _ _ ⟨(blk_cell BK272.out 0).trans rfl, (blk_cell BK272.out 1).trans rfl, (pw_cell_below HB.out hw273_0), (pw_cell_below HB.out hw273_1), (pw_cell_below HB.out hw273_2), (pw_cell_below HB.out hw274_0), (pw_cell_below HB.out hw274_1), (pw_cell_below HB.out hw274_2)⟩ (fun hHeld => ?_)
            clear hK K
            refine norm_ (a' := ?_) ?_ ?_
            rotate_left
            ·show Act.put _ (some 53) _ = _
             simp only [Act.put, setIfInBounds_toArray, set_cons_zero, set_cons_succ, i64_w, i32_w]
             rfl
            refine pure_ (i := 12) (N := some 41) (v := ?_) (a' := ?_) #[true,true,true,true,true,true,true,true,true,true,true,true,true,false,false,true,false,false] rfl rfl (any_of HT_.out (by kernel_rfl)) (fun _ _ _ h => h) (Or.inl ⟨by rfl, ?_⟩) ?_ ?_
            rotate_left
            ·intro w'
             go_simp
             with_reducible rfl
            rotate_left
            ·simp only [Act.put, setIfInBounds_toArray, set_cons_zero, set_cons_succ, i64_w, i32_w]
             rfl
            refine pure_ (i := 13) (N := some 54) (v := ?_) (a' := ?_) #[true,true,true,true,true,true,true,true,true,true,true,true,true,true,false,true,false,false] rfl rfl (any_of HT_.out (by kernel_rfl)) (fun _ _ _ h => h) (Or.inl ⟨by rfl, ?_⟩) ?_ ?_
            rotate_left
            ·intro w'
             go_simp
             with_reducible rfl
            rotate_left
            ·simp only [Act.put, setIfInBounds_toArray, set_cons_zero, set_cons_succ, i64_w, i32_w]
             rfl
            refine pure_ (i := 14) (N := some 55) (v := ?_) (a' := ?_) #[true,true,true,true,true,true,true,true,true,true,true,true,true,true,true,true,false,false] rfl rfl (any_of HT_.out (by kernel_rfl)) (fun _ _ _ h => h) (Or.inl ⟨by rfl, ?_⟩) ?_ ?_
            rotate_left
            ·intro w'
             go_simp
             with_reducible rfl
            rotate_left
            ·simp only [Act.put, setIfInBounds_toArray, set_cons_zero, set_cons_succ, i64_w, i32_w]
             rfl
            exact norm_ (by simp only [putAll, Act.put, setIfInBounds_toArray, set_cons_zero, set_cons_succ]) (hCont (v277, gb280) _ ⟨hHeld, (by (with_reducible repeat (first | apply ra | apply rn | apply rw1)); exact Kd.R_mono HO278.out (fun _ hk => hk.2)), (by (with_reducible repeat (first | apply ra | apply rn | apply rw1)); exact Kd.R_mono HoL.out (fun _ hk => hk.2)), (by (with_reducible repeat (first | refine kn ?_ _ | refine kd ?_ | refine ka ?_ _)); exact BK272.out), (by (with_reducible repeat (first | refine kn ?_ _ | refine kd ?_ | refine ka ?_ _)); exact BK280.out), GW280.out, GE280.out, NB272_280.out, NB280_272.out, (by repeat (first | (with_reducible first | exact HB.out | apply ba | apply bd | apply b1 | refine bs ?_ GE272.out | refine bs ?_ GE280.out) | exact HB.out))⟩)
          rintro ⟨v277, gb280⟩ w21 ⟨hS_, h0_, h1_, h2_, h3_, h4_, h5_, h6_, h7_, h8_⟩
          have n0_ : Aside0 (Kd.R k43 43 w21 w.heap.size (fun k_ => some k_ ≠ (.slice Ao17 xL.length co17 : Value).ownBlock) v277 t276) := ⟨h0_⟩
          have n1_ : Aside0 (Kd.R k43 43 w21 w.heap.size (fun k_ => some k_ ≠ (v277 : Value).ownBlock) (.slice Ao17 xL.length co17) xL) := ⟨h1_⟩
          have n2_ : Aside0 (w21.heap[gb272]? = some (.cells #[.int .i64 xE, .slice Ao17 xL.length co17] 24 (0, 0))) := ⟨h2_⟩
          have n3_ : Aside0 (w21.heap[gb280]? = some (.cells #[.int .i64 0, .slice none 0 0] 24 (0, 0))) := ⟨h3_⟩
          have n4_ : Aside0 (w.heap.size ≤ gb280) := ⟨h4_⟩
          have n5_ : Aside0 (w.heap.size ≤ gb280) := ⟨h5_⟩
          have n6_ : Aside0 (gb272 ≠ gb280) := ⟨h6_⟩
          have n7_ : Aside0 (gb280 ≠ gb272) := ⟨h7_⟩
          have n8_ : Aside0 (Below w.heap.size w w21) := ⟨h8_⟩
          clear HoL
          clear BK272
          clear HB
          clear h0_ h1_ h2_ h3_ h4_ h5_ h6_ h7_ h8_
          have HO278 := n0_
          have HoL := n1_
          have BK272 := n2_
          have BK280 := n3_
          have GW280 := n4_
          have GE280 := n5_
          have NB272_280 := n6_
          have NB280_272 := n7_
          have HB := n8_
          clear n0_ n1_ n2_ n3_ n4_ n5_ n6_ n7_ n8_
          have hHeld : w21.cell? ⟨gb272, 0, none⟩ = some (.int .i64 xE) ∧ w21.cell? ⟨gb272, 1, none⟩ = some (.slice Ao17 xL.length co17) ∧ w21.cell? (ad273.add ((x9_1).toNat * 3)) = some (.int .i64 ((rd_T39 l1 x9_1).f0.f0)) ∧ w21.cell? ⟨(ad273.add ((x9_1).toNat * 3)).block, (ad273.add ((x9_1).toNat * 3)).off + 1, none⟩ = some (.int .i64 ((rd_T39 l1 x9_1).f0.f1)) ∧ w21.cell? ⟨(ad273.add ((x9_1).toNat * 3)).block, (ad273.add ((x9_1).toNat * 3)).off + 2, none⟩ = some (.int .i64 ((rd_T39 l1 x9_1).f1)) ∧ w21.cell? (ad273.add ((x9_1).toNat * 3)) = some (.int .i64 ((rd_T39 l1 x9_1).f0.f0)) ∧ w21.cell? ⟨(ad273.add ((x9_1).toNat * 3)).block, (ad273.add ((x9_1).toNat * 3)).off + 1, none⟩ = some (.int .i64 ((rd_T39 l1 x9_1).f0.f1)) ∧ w21.cell? ⟨(ad273.add ((x9_1).toNat * 3)).block, (ad273.add ((x9_1).toNat * 3)).off + 2, none⟩ = some (.int .i64 ((rd_T39 l1 x9_1).f1)) := hS_
          obtain ⟨Ao23, co23, eo23⟩ := Kd.R_slice HO278.out
          (first | subst eo23 | (injection eo23 with f1_ f2_ f3_; have f4_ := f1_.symm; have f5_ := f3_.symm; clear f1_ f2_ f3_; subst f4_; subst f5_))
          refine norm_ (a' := ?_) ?_ ?_
          rotate_left
          ·simp only [putAll, Act.put, setIfInBounds_toArray, set_cons_zero, set_cons_succ]
           rfl
          refine one_ (i := 16) (N := none) #[true,true,true,true,true,true,true,true,true,true,true,true,true,true,true,true,true,false] rfl rfl (one_of HT_.out (by kernel_rfl)) (by decide) (fun K hK => ?_)
          have hs22 : w21.cell? ⟨gb280, 0, none⟩ = some (.int .i64 0) := (blk_cell BK280.out 0).trans rfl
          have hfs22 := blk_frozen BK280.out 0
          have hns22_0 := NB272_280.out
          have hms22_0 := NB280_272.out
          have hs24 : w21.cell? ⟨gb280, 1, none⟩ = some (.slice none 0 0) := (blk_cell BK280.out 1).trans rfl
          have hfs24 := blk_frozen BK280.out 1
          have hns24_0 := NB272_280.out
          have hms24_0 := NB280_272.out
          refine skip_ (w1 := ?_) (by rfl) rfl ?_ ?_
          rotate_left
          ·go_simp
           rfl
          refine hK.out _ _ ⟨((cell_far (p := ⟨gb280, _, none⟩) NB272_280.out _).trans (((cell_far (p := ⟨gb280, _, none⟩) NB272_280.out _).trans (hHeld.1)))), ((cell_far (p := ⟨gb280, _, none⟩) NB272_280.out _).trans (((cell_far (p := ⟨gb280, _, none⟩) NB272_280.out _).trans (hHeld.2.1)))), ((cell_far (p := ⟨gb280, _, none⟩) (by first | ((try dsimp only); (try rw [add_block]); exact Nat.ne_of_lt (Nat.lt_of_lt_of_le (by have := World.block_lt_of_cell? _ _ hw273_0; first | rwa [add_block] at this | exact this) GW280.out)) | (show (Addr.add _ _).block ≠ _; rw [add_block]; exact Nat.ne_of_lt (Nat.lt_of_lt_of_le (by have := World.block_lt_of_cell? _ _ hw273_0; first | rwa [add_block] at this | exact this) GW280.out))) _).trans (((cell_far (p := ⟨gb280, _, none⟩) (by first | ((try dsimp only); (try rw [add_block]); exact Nat.ne_of_lt (Nat.lt_of_lt_of_le (by have := World.block_lt_of_cell? _ _ hw273_0; first | rwa [add_block] at this | exact this) GW280.out)) | (show (Addr.add _ _).block ≠ _; rw [add_block]; exact Nat.ne_of_lt (Nat.lt_of_lt_of_le (by have := World.block_lt_of_cell? _ _ hw273_0; first | rwa [add_block] at this | exact this) GW280.out))) _).trans (hHeld.2.2.1)))), ((cell_far (p := ⟨gb280, _, none⟩) (by first | ((try dsimp only); (try rw [add_block]); exact Nat.ne_of_lt (Nat.lt_of_lt_of_le (by have := World.block_lt_of_cell? _ _ hw273_1; first | rwa [add_block] at this | exact this) GW280.out)) | (show (Addr.add _ _).block ≠ _; rw [add_block]; exact Nat.ne_of_lt (Nat.lt_of_lt_of_le (by have := World.block_lt_of_cell? _ _ hw273_1; first | rwa [add_block] at this | exact this) GW280.out))) _).trans (((cell_far (p := ⟨gb280, _, none⟩) (by first | ((try dsimp only); (try rw [add_block]); exact Nat.ne_of_lt (Nat.lt_of_lt_of_le (by have := World.block_lt_of_cell? _ _ hw273_1; first | rwa [add_block] at this | exact this) GW280.out)) | (show (Addr.add _ _).block ≠ _; rw [add_block]; exact Nat.ne_of_lt (Nat.lt_of_lt_of_le (by have := World.block_lt_of_cell? _ _ hw273_1; first | rwa [add_block] at this | exact this) GW280.out))) _).trans (hHeld.2.2.2.1)))), ((cell_far (p := ⟨gb280, _, none⟩) (by first | ((try dsimp only); (try rw [add_block]); exact Nat.ne_of_lt (Nat.lt_of_lt_of_le (by have := World.block_lt_of_cell? _ _ hw273_2; first | rwa [add_block] at this | exact this) GW280.out)) | (show (Addr.add _ _).block ≠ _; rw [add_block]; exact Nat.ne_of_lt (Nat.lt_of_lt_of_le (by have := World.block_lt_of_cell? _ _ hw273_2; first | rwa [add_block] at this | exact this) GW280.out))) _).trans (((cell_far (p := ⟨gb280, _, none⟩) (by first | ((try dsimp only); (try rw [add_block]); exact Nat.ne_of_lt (Nat.lt_of_lt_of_le (by have := World.block_lt_of_cell? _ _ hw273_2; first | rwa [add_block] at this | exact this) GW280.out)) | (show (Addr.add _ _).block ≠ _; rw [add_block]; exact Nat.ne_of_lt (Nat.lt_of_lt_of_le (by have := World.block_lt_of_cell? _ _ hw273_2; first | rwa [add_block] at this | exact this) GW280.out))) _).trans (hHeld.2.2.2.2.1)))), ((cell_far (p := ⟨gb280, _, none⟩) (by first | ((try dsimp only); (try rw [add_block]); exact Nat.ne_of_lt (Nat.lt_of_lt_of_le (by have := World.block_lt_of_cell? _ _ hw274_0; first | rwa [add_block] at this | exact this) GW280.out)) | (show (Addr.add _ _).block ≠ _; rw [add_block]; exact Nat.ne_of_lt (Nat.lt_of_lt_of_le (by have := World.block_lt_of_cell? _ _ hw274_0; first | rwa [add_block] at this | exact this) GW280.out))) _).trans (((cell_far (p := ⟨gb280, _, none⟩) (by first | ((try dsimp only); (try rw [add_block]); exact Nat.ne_of_lt (Nat.lt_of_lt_of_le (by have := World.block_lt_of_cell? _ _ hw274_0; first | rwa [add_block] at this | exact this) GW280.out)) | (show (Addr.add _ _).block ≠ _; rw [add_block]; exact Nat.ne_of_lt (Nat.lt_of_lt_of_le (by have := World.block_lt_of_cell? _ _ hw274_0; first | rwa [add_block] at this | exact this) GW280.out))) _).trans (hHeld.2.2.2.2.2.1)))), ((cell_far (p := ⟨gb280, _, none⟩) (by first | ((try dsimp only); (try rw [add_block]); exact Nat.ne_of_lt (Nat.lt_of_lt_of_le (by have := World.block_lt_of_cell? _ _ hw274_1; first | rwa [add_block] at this | exact this) GW280.out)) | (show (Addr.add _ _).block ≠ _; rw [add_block]; exact Nat.ne_of_lt (Nat.lt_of_lt_of_le (by have := World.block_lt_of_cell? _ _ hw274_1; first | rwa [add_block] at this | exact this) GW280.out))) _).trans (((cell_far (p := ⟨gb280, _, none⟩) (by first | ((try dsimp only); (try rw [add_block]); exact Nat.ne_of_lt (Nat.lt_of_lt_of_le (by have := World.block_lt_of_cell? _ _ hw274_1; first | rwa [add_block] at this | exact this) GW280.out)) | (show (Addr.add _ _).block ≠ _; rw [add_block]; exact Nat.ne_of_lt (Nat.lt_of_lt_of_le (by have := World.block_lt_of_cell? _ _ hw274_1; first | rwa [add_block] at this | exact this) GW280.out))) _).trans (hHeld.2.2.2.2.2.2.1)))), ((cell_far (p := ⟨gb280, _, none⟩) (by first | ((try dsimp only); (try rw [add_block]); exact Nat.ne_of_lt (Nat.lt_of_lt_of_le (by have := World.block_lt_of_cell? _ _ hw274_2; first | rwa [add_block] at this | exact this) GW280.out)) | (show (Addr.add _ _).block ≠ _; rw [add_block]; exact Nat.ne_of_lt (Nat.lt_of_lt_of_le (by have := World.block_lt_of_cell? _ _ hw274_2; first | rwa [add_block] at this | exact this) GW280.out))) _).trans (((cell_far (p := ⟨gb280, _, none⟩) (by first | ((try dsimp only); (try rw [add_block]); exact Nat.ne_of_lt (Nat.lt_of_lt_of_le (by have := World.block_lt_of_cell? _ _ hw274_2; first | rwa [add_block] at this | exact this) GW280.out)) | (show (Addr.add _ _).block ≠ _; rw [add_block]; exact Nat.ne_of_lt (Nat.lt_of_lt_of_le (by have := World.block_lt_of_cell? _ _ hw274_2; first | rwa [add_block] at this | exact this) GW280.out))) _).trans (hHeld.2.2.2.2.2.2.2))))⟩ (fun hHeld => ?_)
          clear hK K
          refine pure_ (i := 17) (N := some 11) (v := ?_) (a' := ?_) #[true,true,true,true,true,true,true,true,true,true,true,true,true,true,true,true,true,true] rfl rfl (any_of HT_.out (by kernel_rfl)) (fun _ _ _ h => h) (Or.inl ⟨by rfl, ?_⟩) ?_ ?_
          rotate_left
          ·intro w'
           go_simp
           with_reducible rfl
          rotate_left
          ·simp only [Act.put, setIfInBounds_toArray, set_cons_zero, set_cons_succ, i64_w, i32_w]
           rfl
          refine done_ (done_of HT_.out (by kernel_rfl)) ?_
          have hnb25 := NB280_272.out
          have hnc25 := NB272_280.out
          have hcz26_0 : w21.cell? ⟨gb280, 0, none⟩ = some (.int .i64 0) := (blk_cell BK280.out 0).trans rfl
          have hcz26_1 : w21.cell? ⟨gb280, 1, none⟩ = some (.slice none 0 0) := (blk_cell BK280.out 1).trans rfl
          have hfz26_0 := blk_frozen BK280.out 0
          have hfz26_1 := blk_frozen BK280.out 1
          try go_wp2
          go_loopg [12, 83] kj9 (fun kq v12 v83 w' => ∃ (x12_3 : List (S26)) (x83_3 : Int), v83 = .int .i64 x83_3 ∧ Aside0 (racewaylaw15_ChartServes.l1 kq l1 a2 x9_1 x12_3 t276 (t276.length : Int) x83_3 xE xL t275 t276 = some r) ∧ Aside0 (kq ≤ kj9) ∧ Aside0 (Kd.R k26 26 w' w.heap.size (fun _ => True) v12 x12_3) ∧ Aside0 (Kd.R k43 43 w' w.heap.size (fun k_ => some k_ ≠ ((.slice Ao17 xL.length co17) : Value).ownBlock) (.slice Ao23 t276.length co23) t276) ∧ Aside0 (Kd.R k43 43 w' w.heap.size (fun k_ => some k_ ≠ ((.slice Ao23 t276.length co23) : Value).ownBlock ∧ some k_ ≠ ((.slice Ao23 t276.length co23) : Value).ownBlock) (.slice Ao17 xL.length co17) xL) ∧ Aside0 (Kd.R k43 43 w' w.heap.size (fun k_ => some k_ ≠ ((.slice Ao17 xL.length co17) : Value).ownBlock) (.slice Ao23 t276.length co23) t276) ∧ Aside0 (w'.heap[gb272]? = some (.cells #[.int .i64 xE, (.slice Ao17 xL.length co17)] 24 (0, 0))) ∧ Aside0 (w'.heap[gb280]? = some (.cells #[.int .i64 t275, (.slice Ao23 t276.length co23)] 24 (0, 0))) ∧ Aside0 (Below w.heap.size w w'))
          case atStart => exact ⟨(([] : List (S26))), (0), (by first | rfl | (simp; done) | (simp [*]; done)), H', ⟨Nat.le_refl _⟩, ⟨by first | exact Kd.R_nil _ _ _ _ _ | exact Kd.N_nil _ _ _ _ _ | exact Kd.V_nil _ _ _ _ _ | exact Kd.Q_nil _ _ _ _ _ | exact Kd.S_nil _ _ _ _ _⟩, ⟨by (with_reducible repeat (first | apply ra | apply rn | apply rw1)); exact Kd.R_mono (Kd.R_far (p := ⟨gb280, 1, none⟩) (Kd.R_far (p := ⟨gb280, 0, none⟩) (Kd.R_types HO278.out BK280.out (by decide)) (fun _ hk => hk.2) (.int .i64 t275)) (fun _ hk => hk.2) (.slice Ao23 t276.length co23)) (fun _ hk => hk.1)⟩, ⟨by (with_reducible repeat (first | apply ra | apply rn | apply rw1)); exact Kd.R_mono (Kd.R_far (p := ⟨gb280, 1, none⟩) (Kd.R_far (p := ⟨gb280, 0, none⟩) (Kd.R_types HoL.out BK280.out (by decide)) (fun _ hk => hk.2) (.int .i64 t275)) (fun _ hk => hk.2) (.slice Ao23 t276.length co23)) (fun _ hk => ⟨hk.1, hk.1⟩)⟩, ⟨by (with_reducible repeat (first | apply ra | apply rn | apply rw1)); exact Kd.R_mono (Kd.R_far (p := ⟨gb280, 1, none⟩) (Kd.R_far (p := ⟨gb280, 0, none⟩) (Kd.R_types HO278.out BK280.out (by decide)) (fun _ hk => hk.2) (.int .i64 t275)) (fun _ hk => hk.2) (.slice Ao23 t276.length co23)) (fun _ hk => hk.1)⟩, ⟨by (with_reducible repeat (first | refine kn ?_ _ | refine kd ?_ | refine ka ?_ _)); refine blk_far ?_ NB272_280.out _; (with_reducible repeat (first | refine kn ?_ _ | refine kd ?_ | refine ka ?_ _)); refine blk_far ?_ NB272_280.out _; (with_reducible repeat (first | refine kn ?_ _ | refine kd ?_ | refine ka ?_ _)); exact BK272.out⟩, ⟨by (with_reducible repeat (first | refine kn ?_ _ | refine kd ?_ | refine ka ?_ _)); refine blk_put (cs := #[.int .i64 t275, .slice none 0 0]) ?_ 1 _ rfl; (with_reducible repeat (first | refine kn ?_ _ | refine kd ?_ | refine ka ?_ _)); refine blk_put (cs := #[.int .i64 0, .slice none 0 0]) ?_ 0 _ rfl; (with_reducible repeat (first | refine kn ?_ _ | refine kd ?_ | refine ka ?_ _)); exact BK280.out⟩, ⟨by repeat (first | (with_reducible first | exact HB.out | apply ba | apply bd | apply b1 | refine bs ?_ GE272.out | refine bs ?_ GE280.out) | exact HB.out)⟩⟩
          case round =>
           clear H'
           try clear c1
           try clear c2
           try clear p2
           try clear q2
           try clear hx2
           try clear c4
           try clear c5
           try clear c5b0
           try clear c5b1
           try clear p6
           try clear c8
           try clear c11
           try clear c11b0
           try clear c12
           try clear c13
           try clear c13b0
           try clear c14
           try clear c14b0
           try clear c16
           try clear c16b0
           try clear c16b1
           try clear c25
           try clear hcz26_0
           try clear hcz26_1
           try clear hcz8_0
           try clear hcz8_1
           try clear hfz26_0
           try clear hfz26_1
           try clear hfz8_0
           try clear hfz8_1
           try clear hx273_0
           try clear hx273_1
           try clear hx273_2
           try clear hx274_0
           try clear hx274_1
           try clear hx274_2
           try clear p2
           try clear p273
           try clear p274
           try clear p6
           try clear q273
           try clear q274
           obtain ⟨x12_3, x83_3, rfl, HA, HK3, HO_12, HO_81, HoL, HoM, BK272, BK280, HB⟩ := hrel
           cases gk with
           | zero => exact absurd HA.out (by simp [racewaylaw15_ChartServes.l1])
           | succ k3 =>
            have H := HA.out
            clear HA
            simp only [racewaylaw15_ChartServes.l1] at H
            by_cases c27 : x83_3 < (t276.length : Int)
            ·rw [if_pos c27] at H
             have c27b0 : decide (x83_3 < (t276.length : Int)) = true := decide_eq_true c27
             clear c27
             by_cases c28 : 0 ≤ x83_3
             ·rw [if_pos c28] at H
              have c28b0 : decide (0 ≤ x83_3) = true := decide_eq_true c28
              clear c28
              by_cases c29 : x83_3 < (t276.length : Int)
              ·rw [if_pos c29] at H
               have c29b0 : decide (x83_3 < (t276.length : Int)) = true := decide_eq_true c29
               clear c29
               by_cases c30 : x12_3.length < 8796093022208
               ·rw [if_pos c30] at H
                have LMc30 := Aside0.mk c30
                clear c30
                obtain ⟨y287, hy287⟩ : ∃ y_ : List (S26), y_ = (x12_3 ++ [(⟨(rd_T43 t276 x83_3).f0.f0, (rd_T43 t276 x83_3).f0.f1⟩ : S26)]) := ⟨_, rfl⟩
                replace H : (racewaylaw15_ChartServes.l1 k3 l1 a2 x9_1 y287 t276 (t276.length : Int) (wrap64 (x83_3 + 1)) xE xL t275 t276) = some r := by first | (rw [hy287]; with_reducible exact H) | (have H2_ := (Option.bind_some _ _).symm.trans H; rw [hy287]; with_reducible exact H2_) | (have H2_ := (Option.bind_some _ _).symm.trans H; with_reducible exact H2_) | with_reducible exact H | (rw [hy287]; exact H) | exact H
                have Ny287 := Aside0.mk hy287
                clear hy287
                as_aux_lemma =>
                 have H' := Aside0.mk H
                 clear H
                 have p285 : 0 ≤ (x83_3 : Int) := of_decide_eq_true (by first | (with_reducible assumption) | assumption)
                 have q285 : x83_3 < (t276.length : Int) := of_decide_eq_true (by first | (with_reducible assumption) | assumption)
                 obtain ⟨ad285, e285, hx285_0, hx285_1, hx285_2⟩ := at_T43 (Kd.R_reads' HO_81.out).2.2 x83_3 p285 q285
                 cases e285
                 replace p285 := eq_true p285
                 replace q285 := eq_true q285
                 go_wp2_with (first | ((with_reducible refine gate_dst (N := 14) rfl ?_); refine box_event ?hg (N := 14) ?hd (cs := #[.int .i64 0, .int .i64 0, .int .i64 0]) (t := 43) ?hr ?_; (case hd => rfl); (case hg => rfl); (case hr => first | (go_simp; done) | (go_simp; rfl)); intro gb286 hg w31 hbox hb; have n0_ := ak (Kd.R_below (by (with_reducible repeat (first | apply ra | apply rn | apply rw1)); exact HO_12.out) hb); have n1_ := ak (Kd.R_below (Kd.R_elderB (by (with_reducible repeat (first | apply ra | apply rn | apply rw1)); exact HO_81.out) gb286 (Nat.le_of_eq hg.symm)) hb); have n2_ := ak (Kd.R_below (Kd.R_elderB (by (with_reducible repeat (first | apply ra | apply rn | apply rw1)); exact HoL.out) gb286 (Nat.le_of_eq hg.symm)) hb); have n3_ := ak (Kd.R_below (Kd.R_elderB (by (with_reducible repeat (first | apply ra | apply rn | apply rw1)); exact HoM.out) gb286 (Nat.le_of_eq hg.symm)) hb); have n4_ := ak (blk_below (g := gb272) (o := .cells #[.int .i64 xE, .slice Ao17 xL.length co17] 24 (0, 0)) (by (with_reducible repeat (first | refine kn ?_ _ | refine kd ?_ | refine ka ?_ _)); exact BK272.out) hb); have n5_ := ak (blk_below (g := gb280) (o := .cells #[.int .i64 t275, .slice (some ad285) t276.length co23] 24 (0, 0)) (by (with_reducible repeat (first | refine kn ?_ _ | refine kd ?_ | refine ka ?_ _)); exact BK280.out) hb); have n6_ := ak (below_step (by repeat (first | (with_reducible first | exact HB.out | apply ba | apply bd | apply b1 | refine bs ?_ GE272.out | refine bs ?_ GE280.out) | exact HB.out)) hb); have n7_ := ak (hbox); have n8_ := ak ((by rw [hg]; exact (below_size (by repeat (first | (with_reducible first | exact HB.out | apply ba | apply bd | apply b1 | refine bs ?_ GE272.out | refine bs ?_ GE280.out) | exact HB.out))) : w.heap.size ≤ gb286)); have n9_ := ak ((by rw [hg]; exact (below_size (by repeat (first | (with_reducible first | exact HB.out | apply ba | apply bd | apply b1 | refine bs ?_ GE272.out | refine bs ?_ GE280.out) | exact HB.out))) : w.heap.size ≤ gb286)); have n10_ := ak ((by rw [hg]; exact Nat.ne_of_lt (blk_lt (g := gb272) (o := .cells #[.int .i64 xE, .slice Ao17 xL.length co17] 24 (0, 0)) (by (with_reducible repeat (first | refine kn ?_ _ | refine kd ?_ | refine ka ?_ _)); exact BK272.out)) : gb272 ≠ gb286)); have n11_ := ak ((by rw [hg]; exact Nat.ne_of_gt (blk_lt (g := gb272) (o := .cells #[.int .i64 xE, .slice Ao17 xL.length co17] 24 (0, 0)) (by (with_reducible repeat (first | refine kn ?_ _ | refine kd ?_ | refine ka ?_ _)); exact BK272.out)) : gb286 ≠ gb272)); have n12_ := ak ((by rw [hg]; exact Nat.ne_of_lt (blk_lt (g := gb280) (o := .cells #[.int .i64 t275, .slice (some ad285) t276.length co23] 24 (0, 0)) (by (with_reducible repeat (first | refine kn ?_ _ | refine kd ?_ | refine ka ?_ _)); exact BK280.out)) : gb280 ≠ gb286)); have n13_ := ak ((by rw [hg]; exact Nat.ne_of_gt (blk_lt (g := gb280) (o := .cells #[.int .i64 t275, .slice (some ad285) t276.length co23] 24 (0, 0)) (by (with_reducible repeat (first | refine kn ?_ _ | refine kd ?_ | refine ka ?_ _)); exact BK280.out)) : gb286 ≠ gb280)); clear HO_12; clear HO_81; clear HoL; clear HoM; clear BK272; clear BK280; clear HB; have HO_12 := n0_; have HO_81 := n1_; have HoL := n2_; have HoM := n3_; have BK272 := n4_; have BK280 := n5_; have HB := n6_; have BK286 := n7_; have GW286 := n8_; have GE286 := n9_; have NB272_286 := n10_; have NB286_272 := n11_; have NB280_286 := n12_; have NB286_280 := n13_; clear n0_ n1_ n2_ n3_ n4_ n5_ n6_ n7_ n8_ n9_ n10_ n11_ n12_ n13_; clear hb hbox hg; have hnb32 := NB286_272.out; have hnc32 := NB272_286.out; have hnb33 := NB286_280.out; have hnc33 := NB280_286.out; have hcz34_0 : w31.cell? ⟨gb286, 0, none⟩ = some (.int .i64 0) := (blk_cell BK286.out 0).trans rfl; have hcz34_1 : w31.cell? ⟨gb286, 1, none⟩ = some (.int .i64 0) := (blk_cell BK286.out 1).trans rfl; have hcz34_2 : w31.cell? ⟨gb286, 2, none⟩ = some (.int .i64 0) := (blk_cell BK286.out 2).trans rfl; have hfz34_0 := blk_frozen BK286.out 0; have hfz34_1 := blk_frozen BK286.out 1; have hfz34_2 := blk_frozen BK286.out 2) | ((with_reducible refine gate_builtin (b := .append) (xs := #[.tmp 87, .tmp 90]) rfl ?_); at_builtin; refine Kd.R_append k26 (w0 := w) w.heap.size rfl (.tmp 87) (.tmp 90) 41 26 (.agg #[(.int .i64 0), (.int .i64 0)]) 16 rfl Try.underlying41 info26 rfl (by decide) (by omega) u12 x12_3 (⟨(rd_T43 t276 x83_3).f0.f0, (rd_T43 t276 x83_3).f0.f1⟩ : S26) [.int .i64 ((rd_T43 t276 x83_3).f0.f0), .int .i64 ((rd_T43 t276 x83_3).f0.f1)] (fun _ => True) (fun _ => False) rfl (by first | (go_simp; done) | (go_simp; rfl)) ?aP (fun _ hk => hk.elim) ?aF ?aO ?aB ?aS ?aL ?_; (case aP => exact k26_mkM _ _ _ (⟨(rd_T43 t276 x83_3).f0.f0, (rd_T43 t276 x83_3).f0.f1⟩ : S26)); (case aB => exact (by repeat (first | (with_reducible first | exact HB.out | apply ba | apply bd | apply b1 | refine bs ?_ GE272.out | refine bs ?_ GE280.out | refine bs ?_ GE286.out) | exact HB.out))); (case aF => exact (fun _ _ => trivial)); (case aO => exact (by (with_reducible repeat (first | apply ra | apply rn | apply rw1)); exact Kd.R_mono (Kd.R_far (p := ⟨gb286, 2, none⟩) (Kd.R_far (p := ⟨gb286, 1, none⟩) (Kd.R_far (p := ⟨gb286, 0, none⟩) (Kd.R_types HO_12.out BK286.out (by decide)) (fun _ hk => hk.2) (.int .i64 ((rd_T43 t276 x83_3).f0.f0))) (fun _ hk => hk.2) (.int .i64 ((rd_T43 t276 x83_3).f0.f1))) (fun _ hk => hk.2) (.int .i64 ((rd_T43 t276 x83_3).f1))) (fun _ hk => trivial))); (case aS => exact (below_size (by repeat (first | (with_reducible first | exact HB.out | apply ba | apply bd | apply b1 | refine bs ?_ GE272.out | refine bs ?_ GE280.out | refine bs ?_ GE286.out) | exact HB.out)))); (case aL => have := LMc30.out; omega); intro v288 w35 ho hb hg hat; rw [← Ny287.out] at ho; have n0_ := ak (Kd.R_over' (by (with_reducible repeat (first | apply ra | apply rn | apply rw1)); exact (Kd.R_mono (Kd.R_far (p := ⟨gb286, 2, none⟩) (Kd.R_far (p := ⟨gb286, 1, none⟩) (Kd.R_far (p := ⟨gb286, 0, none⟩) (Kd.R_mono HO_81.out (fun k_ hk => (⟨hk, hk.2⟩ : _ ∧ k_ ≠ gb286))) (fun _ hk => hk.2) (.int .i64 ((rd_T43 t276 x83_3).f0.f0))) (fun _ hk => hk.2) (.int .i64 ((rd_T43 t276 x83_3).f0.f1))) (fun _ hk => hk.2) (.int .i64 ((rd_T43 t276 x83_3).f1))) (fun _ h_ => h_.1))) (Kd.R_typed (by (with_reducible repeat (first | apply ra | apply rn | apply rw1)); exact (Kd.R_mono (Kd.R_far (p := ⟨gb286, 2, none⟩) (Kd.R_far (p := ⟨gb286, 1, none⟩) (Kd.R_far (p := ⟨gb286, 0, none⟩) (Kd.R_types HO_12.out BK286.out (by decide)) (fun _ hk => hk.2) (.int .i64 ((rd_T43 t276 x83_3).f0.f0))) (fun _ hk => hk.2) (.int .i64 ((rd_T43 t276 x83_3).f0.f1))) (fun _ hk => hk.2) (.int .i64 ((rd_T43 t276 x83_3).f1))) (fun _ h_ => h_.1)))) (by decide) hg); have n1_ := ak (Kd.R_over' (by (with_reducible repeat (first | apply ra | apply rn | apply rw1)); exact (Kd.R_mono (Kd.R_far (p := ⟨gb286, 2, none⟩) (Kd.R_far (p := ⟨gb286, 1, none⟩) (Kd.R_far (p := ⟨gb286, 0, none⟩) (Kd.R_mono HoL.out (fun k_ hk => (⟨hk, hk.2⟩ : _ ∧ k_ ≠ gb286))) (fun _ hk => hk.2) (.int .i64 ((rd_T43 t276 x83_3).f0.f0))) (fun _ hk => hk.2) (.int .i64 ((rd_T43 t276 x83_3).f0.f1))) (fun _ hk => hk.2) (.int .i64 ((rd_T43 t276 x83_3).f1))) (fun _ h_ => h_.1))) (Kd.R_typed (by (with_reducible repeat (first | apply ra | apply rn | apply rw1)); exact (Kd.R_mono (Kd.R_far (p := ⟨gb286, 2, none⟩) (Kd.R_far (p := ⟨gb286, 1, none⟩) (Kd.R_far (p := ⟨gb286, 0, none⟩) (Kd.R_types HO_12.out BK286.out (by decide)) (fun _ hk => hk.2) (.int .i64 ((rd_T43 t276 x83_3).f0.f0))) (fun _ hk => hk.2) (.int .i64 ((rd_T43 t276 x83_3).f0.f1))) (fun _ hk => hk.2) (.int .i64 ((rd_T43 t276 x83_3).f1))) (fun _ h_ => h_.1)))) (by decide) hg); have n2_ := ak (Kd.R_over' (by (with_reducible repeat (first | apply ra | apply rn | apply rw1)); exact (Kd.R_mono (Kd.R_far (p := ⟨gb286, 2, none⟩) (Kd.R_far (p := ⟨gb286, 1, none⟩) (Kd.R_far (p := ⟨gb286, 0, none⟩) (Kd.R_mono HoM.out (fun k_ hk => (⟨hk, hk.2⟩ : _ ∧ k_ ≠ gb286))) (fun _ hk => hk.2) (.int .i64 ((rd_T43 t276 x83_3).f0.f0))) (fun _ hk => hk.2) (.int .i64 ((rd_T43 t276 x83_3).f0.f1))) (fun _ hk => hk.2) (.int .i64 ((rd_T43 t276 x83_3).f1))) (fun _ h_ => h_.1))) (Kd.R_typed (by (with_reducible repeat (first | apply ra | apply rn | apply rw1)); exact (Kd.R_mono (Kd.R_far (p := ⟨gb286, 2, none⟩) (Kd.R_far (p := ⟨gb286, 1, none⟩) (Kd.R_far (p := ⟨gb286, 0, none⟩) (Kd.R_types HO_12.out BK286.out (by decide)) (fun _ hk => hk.2) (.int .i64 ((rd_T43 t276 x83_3).f0.f0))) (fun _ hk => hk.2) (.int .i64 ((rd_T43 t276 x83_3).f0.f1))) (fun _ hk => hk.2) (.int .i64 ((rd_T43 t276 x83_3).f1))) (fun _ h_ => h_.1)))) (by decide) hg); have n3_ := ak (blk_grown (g := gb272) (o := .cells #[.int .i64 xE, .slice Ao17 xL.length co17] 24 (0, 0)) (by (with_reducible repeat (first | refine kn ?_ _ | refine kd ?_ | refine ka ?_ _)); refine blk_far ?_ NB272_286.out _; (with_reducible repeat (first | refine kn ?_ _ | refine kd ?_ | refine ka ?_ _)); refine blk_far ?_ NB272_286.out _; (with_reducible repeat (first | refine kn ?_ _ | refine kd ?_ | refine ka ?_ _)); refine blk_far ?_ NB272_286.out _; (with_reducible repeat (first | refine kn ?_ _ | refine kd ?_ | refine ka ?_ _)); exact BK272.out) hg (Kd.R_ne HO_12.out BK272.out (by decide))); have n4_ := ak (blk_grown (g := gb280) (o := .cells #[.int .i64 t275, .slice (some ad285) t276.length co23] 24 (0, 0)) (by (with_reducible repeat (first | refine kn ?_ _ | refine kd ?_ | refine ka ?_ _)); refine blk_far ?_ NB280_286.out _; (with_reducible repeat (first | refine kn ?_ _ | refine kd ?_ | refine ka ?_ _)); refine blk_far ?_ NB280_286.out _; (with_reducible repeat (first | refine kn ?_ _ | refine kd ?_ | refine ka ?_ _)); refine blk_far ?_ NB280_286.out _; (with_reducible repeat (first | refine kn ?_ _ | refine kd ?_ | refine ka ?_ _)); exact BK280.out) hg (Kd.R_ne HO_12.out BK280.out (by decide))); have n5_ := ak (blk_grown (g := gb286) (o := .cells #[.int .i64 ((rd_T43 t276 x83_3).f0.f0), .int .i64 ((rd_T43 t276 x83_3).f0.f1), .int .i64 ((rd_T43 t276 x83_3).f1)] 43 (0, 0)) (by (with_reducible repeat (first | refine kn ?_ _ | refine kd ?_ | refine ka ?_ _)); refine blk_put (cs := #[.int .i64 ((rd_T43 t276 x83_3).f0.f0), .int .i64 ((rd_T43 t276 x83_3).f0.f1), .int .i64 0]) ?_ 2 _ rfl; (with_reducible repeat (first | refine kn ?_ _ | refine kd ?_ | refine ka ?_ _)); refine blk_put (cs := #[.int .i64 ((rd_T43 t276 x83_3).f0.f0), .int .i64 0, .int .i64 0]) ?_ 1 _ rfl; (with_reducible repeat (first | refine kn ?_ _ | refine kd ?_ | refine ka ?_ _)); refine blk_put (cs := #[.int .i64 0, .int .i64 0, .int .i64 0]) ?_ 0 _ rfl; (with_reducible repeat (first | refine kn ?_ _ | refine kd ?_ | refine ka ?_ _)); exact BK286.out) hg (Kd.R_ne HO_12.out BK286.out (by decide))); have n6_ := ak (hb); have n7_ := ak (ho); clear HO_81; clear HoL; clear HoM; clear BK272; clear BK280; clear BK286; clear HB; clear HO_12; have HO_81 := n0_; have HoL := n1_; have HoM := n2_; have BK272 := n3_; have BK280 := n4_; have BK286 := n5_; have HB := n6_; have HO289 := n7_; clear n0_ n1_ n2_ n3_ n4_ n5_ n6_ n7_; clear ho hb hg hat))
                 go_roundg k3
                 case measure => have := HK1.out; have := HJ9.out; have := HK3.out; omega
                 case rel => exact ⟨(y287), (wrap64 (x83_3 + 1)), (by first | rfl | (simp; done) | (simp [*]; done)), H', ⟨by have := HK1.out; have := HJ9.out; have := HK3.out; omega⟩, ⟨by (with_reducible repeat (first | apply ra | apply rn | apply rw1)); exact HO289.out⟩, ⟨by (with_reducible repeat (first | apply ra | apply rn | apply rw1)); exact Kd.R_mono HO_81.out (fun _ hk => hk.1)⟩, ⟨by (with_reducible repeat (first | apply ra | apply rn | apply rw1)); exact Kd.R_mono HoL.out (fun _ hk => ⟨hk.1.1, hk.1.2⟩)⟩, ⟨by (with_reducible repeat (first | apply ra | apply rn | apply rw1)); exact Kd.R_mono HoM.out (fun _ hk => hk.1)⟩, ⟨by (with_reducible repeat (first | refine kn ?_ _ | refine kd ?_ | refine ka ?_ _)); exact BK272.out⟩, ⟨by (with_reducible repeat (first | refine kn ?_ _ | refine kd ?_ | refine ka ?_ _)); exact BK280.out⟩, ⟨by repeat (first | (with_reducible first | exact HB.out | apply ba | apply bd | apply b1 | refine bs ?_ GE272.out | refine bs ?_ GE280.out | refine bs ?_ GE286.out) | exact HB.out)⟩⟩
               ·rw [if_neg c30] at H
                exact absurd H (by simp)
              ·rw [if_neg c29] at H
               exact absurd H (by simp)
             ·rw [if_neg c28] at H
              exact absurd H (by simp)
            ·rw [if_neg c27] at H
             have c27b0 : decide (x83_3 < (t276.length : Int)) = false := decide_eq_false c27
             clear c27
             have HC36 := Aside0.mk H
             clear H
             go_upto_region 17 with (fail)
             go_cut [100] (fun v100 wc => ∃ (kq : Nat) (x100_35 : Bool), v100 = .bool x100_35 ∧ Aside0 (racewaylaw15_ChartServes.j4 kq l1 a2 x9_1 x100_35 xE xL t275 t276 = some r) ∧ Aside0 (kq ≤ k3) ∧ Aside0 (Kd.R k43 43 wc w.heap.size (fun k_ => some k_ ≠ ((.slice Ao23 t276.length co23) : Value).ownBlock) (.slice Ao17 xL.length co17) xL) ∧ Aside0 (Kd.R k43 43 wc w.heap.size (fun k_ => some k_ ≠ ((.slice Ao17 xL.length co17) : Value).ownBlock) (.slice Ao23 t276.length co23) t276) ∧ Aside0 (wc.heap[gb272]? = some (.cells #[.int .i64 xE, (.slice Ao17 xL.length co17)] 24 (0, 0))) ∧ Aside0 (wc.heap[gb280]? = some (.cells #[.int .i64 t275, (.slice Ao23 t276.length co23)] 24 (0, 0))) ∧ Aside0 (Below w.heap.size w wc))
             case first =>
              have H := HC36.out
              clear HC36
              replace H := Option.bind_eq_some_iff.mp H
              obtain ⟨t290, A370, H⟩ := H
              replace H : (if t290 = true then ((place_Covers.f k3 x12_3).bind fun t291 => (racewaylaw15_ChartServes.j4 k3 l1 a2 x9_1 (!t291) xE xL t275 t276)) else (racewaylaw15_ChartServes.j4 k3 l1 a2 x9_1 true xE xL t275 t276)) = some r := H
              have A37 := Aside0.mk A370
              clear A370
              by_cases c38 : t290 = true
              ·subst c38
               have H1 : ((place_Covers.f k3 x12_3).bind fun t291 => (racewaylaw15_ChartServes.j4 k3 l1 a2 x9_1 (!t291) xE xL t275 t276)) = some r := by rw [if_pos rfl] at H; exact H
               clear H
               have H := H1
               clear H1
               replace H := Option.bind_eq_some_iff.mp H
               obtain ⟨t291, A390, H⟩ := H
               replace H : (racewaylaw15_ChartServes.j4 k3 l1 a2 x9_1 (!t291) xE xL t275 t276) = some r := H
               have A39 := Aside0.mk A390
               clear A390
               as_aux_lemma =>
                have H' := Aside0.mk H
                clear H
                have hnb40 := NB280_272.out
                have hnc40 := NB272_280.out
                have hcz41_0 : wr.cell? ⟨gb280, 0, none⟩ = some (.int .i64 t275) := (blk_cell BK280.out 0).trans rfl
                have hcz41_1 : wr.cell? ⟨gb280, 1, none⟩ = some (.slice Ao23 t276.length co23) := (blk_cell BK280.out 1).trans rfl
                have hfz41_0 := blk_frozen BK280.out 0
                have hfz41_1 := blk_frozen BK280.out 1
                go_wp2_with (first | ((with_reducible refine gate_callee (f := 15) rfl ?_); refine goesL_ (some 94) rfl rfl Try.func15 (by kernel_rfl) rfl #[.agg #[.int .i64 t275, .slice Ao23 t276.length co23]] rfl (by (try simp only [List.map_toArray, List.map_cons, List.map_nil]); first | done | rfl | (simp only [List.length_drop, List.length_take]; rfl)) ?_; (with_reducible refine (chart_May.calls k3 t275 _ _ t276 true _ ?side1 ?side2 A37.out).mono ?_); (case side1 => repeat (first | exact (Kd.R_reads' HoM.out).2.2 | (with_reducible refine Kd.C_alloc ?_ _) | (with_reducible refine Kd.C_drewN ?_ _) | (with_reducible refine Kd.C_drew ?_))); (case side2 => exact (Kd.R_reads' HoM.out).2.1); rintro e w42 ⟨rfl, hb⟩; refine ⟨_, rfl, ?_⟩; have n0_ := ak (Kd.R_below (by (with_reducible repeat (first | apply ra | apply rn | apply rw1)); exact HO_12.out) hb); have n1_ := ak (Kd.R_below (by (with_reducible repeat (first | apply ra | apply rn | apply rw1)); exact HO_81.out) hb); have n2_ := ak (Kd.R_below (by (with_reducible repeat (first | apply ra | apply rn | apply rw1)); exact HoL.out) hb); have n3_ := ak (Kd.R_below (by (with_reducible repeat (first | apply ra | apply rn | apply rw1)); exact HoM.out) hb); have n4_ := ak (blk_below (g := gb272) (o := .cells #[.int .i64 xE, .slice Ao17 xL.length co17] 24 (0, 0)) (by (with_reducible repeat (first | refine kn ?_ _ | refine kd ?_ | refine ka ?_ _)); exact BK272.out) hb); have n5_ := ak (blk_below (g := gb280) (o := .cells #[.int .i64 t275, .slice Ao23 t276.length co23] 24 (0, 0)) (by (with_reducible repeat (first | refine kn ?_ _ | refine kd ?_ | refine ka ?_ _)); exact BK280.out) hb); have n6_ := ak (below_step (by repeat (first | (with_reducible first | exact HB.out | apply ba | apply bd | apply b1 | refine bs ?_ GE272.out | refine bs ?_ GE280.out) | exact HB.out)) hb); clear HO_12; clear HO_81; clear HoL; clear HoM; clear BK272; clear BK280; clear HB; have HO_12 := n0_; have HO_81 := n1_; have HoL := n2_; have HoM := n3_; have BK272 := n4_; have BK280 := n5_; have HB := n6_; clear n0_ n1_ n2_ n3_ n4_ n5_ n6_; (try clear hb); (try clear hb2); (try clear hk); (try clear hi); obtain ⟨Ao43, co43, eo43⟩ := Kd.R_slice HO_12.out; subst eo43) | (go_at_call 16; (with_reducible refine (place_Covers.calls k3 _ _ x12_3 t291 _ ?side1 ?side2 A39.out).mono ?_); (case side1 => repeat (first | exact (Kd.R_reads' HO_12.out).2.2 | (with_reducible refine Kd.C_alloc ?_ _) | (with_reducible refine Kd.C_drewN ?_ _) | (with_reducible refine Kd.C_drew ?_))); (case side2 => exact (Kd.R_reads' HO_12.out).2.1); rintro e w44 ⟨rfl, hb⟩; have n0_ := ak (Kd.R_below (by (with_reducible repeat (first | apply ra | apply rn | apply rw1)); exact HO_12.out) hb); have n1_ := ak (Kd.R_below (by (with_reducible repeat (first | apply ra | apply rn | apply rw1)); exact HO_81.out) hb); have n2_ := ak (Kd.R_below (by (with_reducible repeat (first | apply ra | apply rn | apply rw1)); exact HoL.out) hb); have n3_ := ak (Kd.R_below (by (with_reducible repeat (first | apply ra | apply rn | apply rw1)); exact HoM.out) hb); have n4_ := ak (blk_below (g := gb272) (o := .cells #[.int .i64 xE, .slice Ao17 xL.length co17] 24 (0, 0)) (by (with_reducible repeat (first | refine kn ?_ _ | refine kd ?_ | refine ka ?_ _)); exact BK272.out) hb); have n5_ := ak (blk_below (g := gb280) (o := .cells #[.int .i64 t275, .slice Ao23 t276.length co23] 24 (0, 0)) (by (with_reducible repeat (first | refine kn ?_ _ | refine kd ?_ | refine ka ?_ _)); exact BK280.out) hb); have n6_ := ak (below_step (by repeat (first | (with_reducible first | exact HB.out | apply ba | apply bd | apply b1 | refine bs ?_ GE272.out | refine bs ?_ GE280.out) | exact HB.out)) hb); clear HO_12; clear HO_81; clear HoL; clear HoM; clear BK272; clear BK280; clear HB; have HO_12 := n0_; have HO_81 := n1_; have HoL := n2_; have HoM := n3_; have BK272 := n4_; have BK280 := n5_; have HB := n6_; clear n0_ n1_ n2_ n3_ n4_ n5_ n6_; (try clear hb); (try clear hb2); (try clear hk); (try clear hi)))
                go_meet
                case rel => exact ⟨_, (!t291), (by first | rfl | (simp; done) | (simp [*]; done)), H', ⟨by have := HK1.out; have := HJ9.out; have := HK3.out; first | omega | exact Nat.le_refl _⟩, ⟨by (with_reducible repeat (first | apply ra | apply rn | apply rw1)); exact Kd.R_mono HoL.out (fun _ hk => hk.2)⟩, ⟨by (with_reducible repeat (first | apply ra | apply rn | apply rw1)); exact HoM.out⟩, ⟨by (with_reducible repeat (first | refine kn ?_ _ | refine kd ?_ | refine ka ?_ _)); exact BK272.out⟩, ⟨by (with_reducible repeat (first | refine kn ?_ _ | refine kd ?_ | refine ka ?_ _)); exact BK280.out⟩, ⟨by repeat (first | (with_reducible first | exact HB.out | apply ba | apply bd | apply b1 | refine bs ?_ GE272.out | refine bs ?_ GE280.out) | exact HB.out)⟩⟩
              ·replace c38 := Bool.eq_false_iff.mpr c38
               subst c38
               have H1 : (racewaylaw15_ChartServes.j4 k3 l1 a2 x9_1 true xE xL t275 t276) = some r := by rw [if_neg (show ¬ (false = true) by decide)] at H; exact H
               clear H
               have H := H1
               clear H1
               as_aux_lemma =>
                have H' := Aside0.mk H
                clear H
                have hnb45 := NB280_272.out
                have hnc45 := NB272_280.out
                have hcz46_0 : wr.cell? ⟨gb280, 0, none⟩ = some (.int .i64 t275) := (blk_cell BK280.out 0).trans rfl
                have hcz46_1 : wr.cell? ⟨gb280, 1, none⟩ = some (.slice Ao23 t276.length co23) := (blk_cell BK280.out 1).trans rfl
                have hfz46_0 := blk_frozen BK280.out 0
                have hfz46_1 := blk_frozen BK280.out 1
                go_wp2_with (first | ((with_reducible refine gate_callee (f := 15) rfl ?_); refine goesL_ (some 94) rfl rfl Try.func15 (by kernel_rfl) rfl #[.agg #[.int .i64 t275, .slice Ao23 t276.length co23]] rfl (by (try simp only [List.map_toArray, List.map_cons, List.map_nil]); first | done | rfl | (simp only [List.length_drop, List.length_take]; rfl)) ?_; (with_reducible refine (chart_May.calls k3 t275 _ _ t276 false _ ?side1 ?side2 A37.out).mono ?_); (case side1 => repeat (first | exact (Kd.R_reads' HoM.out).2.2 | (with_reducible refine Kd.C_alloc ?_ _) | (with_reducible refine Kd.C_drewN ?_ _) | (with_reducible refine Kd.C_drew ?_))); (case side2 => exact (Kd.R_reads' HoM.out).2.1); rintro e w47 ⟨rfl, hb⟩; refine ⟨_, rfl, ?_⟩; have n0_ := ak (Kd.R_below (by (with_reducible repeat (first | apply ra | apply rn | apply rw1)); exact HO_12.out) hb); have n1_ := ak (Kd.R_below (by (with_reducible repeat (first | apply ra | apply rn | apply rw1)); exact HO_81.out) hb); have n2_ := ak (Kd.R_below (by (with_reducible repeat (first | apply ra | apply rn | apply rw1)); exact HoL.out) hb); have n3_ := ak (Kd.R_below (by (with_reducible repeat (first | apply ra | apply rn | apply rw1)); exact HoM.out) hb); have n4_ := ak (blk_below (g := gb272) (o := .cells #[.int .i64 xE, .slice Ao17 xL.length co17] 24 (0, 0)) (by (with_reducible repeat (first | refine kn ?_ _ | refine kd ?_ | refine ka ?_ _)); exact BK272.out) hb); have n5_ := ak (blk_below (g := gb280) (o := .cells #[.int .i64 t275, .slice Ao23 t276.length co23] 24 (0, 0)) (by (with_reducible repeat (first | refine kn ?_ _ | refine kd ?_ | refine ka ?_ _)); exact BK280.out) hb); have n6_ := ak (below_step (by repeat (first | (with_reducible first | exact HB.out | apply ba | apply bd | apply b1 | refine bs ?_ GE272.out | refine bs ?_ GE280.out) | exact HB.out)) hb); clear HO_12; clear HO_81; clear HoL; clear HoM; clear BK272; clear BK280; clear HB; have HO_12 := n0_; have HO_81 := n1_; have HoL := n2_; have HoM := n3_; have BK272 := n4_; have BK280 := n5_; have HB := n6_; clear n0_ n1_ n2_ n3_ n4_ n5_ n6_; (try clear hb); (try clear hb2); (try clear hk); (try clear hi)))
                go_meet
                case rel => exact ⟨_, (true), (by first | rfl | (simp; done) | (simp [*]; done)), H', ⟨by have := HK1.out; have := HJ9.out; have := HK3.out; first | omega | exact Nat.le_refl _⟩, ⟨by (with_reducible repeat (first | apply ra | apply rn | apply rw1)); exact Kd.R_mono HoL.out (fun _ hk => hk.2)⟩, ⟨by (with_reducible repeat (first | apply ra | apply rn | apply rw1)); exact HoM.out⟩, ⟨by (with_reducible repeat (first | refine kn ?_ _ | refine kd ?_ | refine ka ?_ _)); exact BK272.out⟩, ⟨by (with_reducible repeat (first | refine kn ?_ _ | refine kd ?_ | refine ka ?_ _)); exact BK280.out⟩, ⟨by repeat (first | (with_reducible first | exact HB.out | apply ba | apply bd | apply b1 | refine bs ?_ GE272.out | refine bs ?_ GE280.out) | exact HB.out)⟩⟩
             case rest =>
              clear HC36
              try clear c1
              try clear c2
              try clear p2
              try clear q2
              try clear hx2
              try clear c3
              try clear c4
              try clear c5
              try clear c5b0
              try clear c5b1
              try clear p6
              try clear c8
              try clear c11
              try clear c11b0
              try clear c12
              try clear c13
              try clear c13b0
              try clear c14
              try clear c14b0
              try clear c15
              try clear c16
              try clear c16b0
              try clear c16b1
              try clear c25
              try clear c27
              try clear c27b0
              try clear p27
              try clear q27
              try clear hx27
              try clear c28
              try clear c28b0
              try clear p28
              try clear q28
              try clear hx28
              try clear c29
              try clear c29b0
              try clear c30
              try clear c32
              try clear c33
              try clear c38
              try clear c40
              try clear c45
              try clear hcz26_0
              try clear hcz26_1
              try clear hcz34_0
              try clear hcz34_1
              try clear hcz34_2
              try clear hcz41_0
              try clear hcz41_1
              try clear hcz46_0
              try clear hcz46_1
              try clear hcz8_0
              try clear hcz8_1
              try clear hfz26_0
              try clear hfz26_1
              try clear hfz34_0
              try clear hfz34_1
              try clear hfz34_2
              try clear hfz41_0
              try clear hfz41_1
              try clear hfz46_0
              try clear hfz46_1
              try clear hfz8_0
              try clear hfz8_1
              try clear hx273_0
              try clear hx273_1
              try clear hx273_2
              try clear hx274_0
              try clear hx274_1
              try clear hx274_2
              try clear hx285_0
              try clear hx285_1
              try clear hx285_2
              try clear p2
              try clear p273
              try clear p274
              try clear p285
              try clear p6
              try clear q2
              try clear q273
              try clear q274
              try clear q285
              obtain ⟨kq, x100_35, rfl, HA, HJ35, HoL, HoM, BK272, BK280, HB⟩ := hcut
              cases kq with
              | zero => exact absurd HA.out (by simp [racewaylaw15_ChartServes.j4])
              | succ kj35 =>
               have H := HA.out
               clear HA
               simp only [racewaylaw15_ChartServes.j4] at H
               by_cases c48 : x100_35 = true
               ·subst c48
                have H1 : (some false) = some r := by rw [if_pos rfl] at H; exact H
                clear H
                have H := H1
                clear H1
                exact absurd (Option.some.inj H) (by rw [hrt.out]; decide)
               ·replace c48 := Bool.eq_false_iff.mpr c48
                subst c48
                have H1 : (if 0 ≤ x9_1 then (if x9_1 < (l1.length : Int) then ((some (([a2, (rd_T39 l1 x9_1).f0.f0, wrap64 (((rd_T39 l1 x9_1).f0.f1) - 1), (rd_T39 l1 x9_1).f0.f1, wrap64 (((rd_T39 l1 x9_1).f0.f0) - 1), 0, 65535] : List Int) : List Int)).bind fun y296 => (racewaylaw15_ChartServes.l2 kj35 l1 a2 x9_1 false y296 (y296.length : Int) 0 xE xL t275 t276)) else (none)) else (none)) = some r := by rw [if_neg (show ¬ (false = true) by decide)] at H; exact H
                clear H
                have H := H1
                clear H1
                by_cases c49 : 0 ≤ x9_1
                ·rw [if_pos c49] at H
                 have c49b0 : decide (0 ≤ x9_1) = true := decide_eq_true c49
                 clear c49
                 by_cases c50 : x9_1 < (l1.length : Int)
                 ·rw [if_pos c50] at H
                  have c50b0 : decide (x9_1 < (l1.length : Int)) = true := decide_eq_true c50
                  clear c50
                  obtain ⟨y296, hy296⟩ : ∃ y_ : List Int, y_ = (([a2, (rd_T39 l1 x9_1).f0.f0, wrap64 (((rd_T39 l1 x9_1).f0.f1) - 1), (rd_T39 l1 x9_1).f0.f1, wrap64 (((rd_T39 l1 x9_1).f0.f0) - 1), 0, 65535] : List Int)) := ⟨_, rfl⟩
                  replace H : (racewaylaw15_ChartServes.l2 kj35 l1 a2 x9_1 false y296 (y296.length : Int) 0 xE xL t275 t276) = some r := by first | (rw [hy296]; with_reducible exact H) | (have H2_ := (Option.bind_some _ _).symm.trans H; rw [hy296]; with_reducible exact H2_) | (have H2_ := (Option.bind_some _ _).symm.trans H; with_reducible exact H2_) | with_reducible exact H | (rw [hy296]; exact H) | exact H
                  have Ny296 := Aside0.mk hy296
                  clear hy296
                  have H' := Aside0.mk H
                  clear H
                  try go_wp2
                  have n0_ := ak (rw1 HoL.out)
                  have n1_ := ak (rw1 HoM.out)
                  have n2_ := ak (kd BK272.out)
                  have n3_ := ak (kd BK280.out)
                  have n4_ := ak (b1 HB.out)
                  clear HoL
                  clear HoM
                  clear BK272
                  clear BK280
                  clear HB
                  have HoL := n0_
                  have HoM := n1_
                  have BK272 := n2_
                  have BK280 := n3_
                  have HB := n4_
                  clear n0_ n1_ n2_ n3_ n4_
                  have p292 : 0 ≤ (x9_1 : Int) := of_decide_eq_true (by first | (with_reducible assumption) | assumption)
                  have q292 : x9_1 < (l1.length : Int) := of_decide_eq_true (by first | (with_reducible assumption) | assumption)
                  obtain ⟨ad292, e292, hx292_0, hx292_1, hx292_2⟩ := at_T39 HR1.out x9_1 p292 q292
                  have hw292_2 := hx292_2
                  have hw292_1 := hx292_1
                  have hw292_0 := hx292_0
                  obtain rfl : ad273 = ad292 := (by injection e292)
                  replace hx292_0 := pw_cell_below HB.out hx292_0
                  replace hx292_1 := pw_cell_below HB.out hx292_1
                  replace hx292_2 := pw_cell_below HB.out hx292_2
                  replace p292 := eq_true p292
                  replace q292 := eq_true q292
                  have p293 : 0 ≤ (x9_1 : Int) := of_decide_eq_true (by first | (with_reducible assumption) | assumption)
                  have q293 : x9_1 < (l1.length : Int) := of_decide_eq_true (by first | (with_reducible assumption) | assumption)
                  obtain ⟨ad293, e293, hx293_0, hx293_1, hx293_2⟩ := at_T39 HR1.out x9_1 p293 q293
                  have hw293_2 := hx293_2
                  have hw293_1 := hx293_1
                  have hw293_0 := hx293_0
                  obtain rfl : ad273 = ad293 := (by injection e293)
                  replace hx293_0 := pw_cell_below HB.out hx293_0
                  replace hx293_1 := pw_cell_below HB.out hx293_1
                  replace hx293_2 := pw_cell_below HB.out hx293_2
                  replace p293 := eq_true p293
                  replace q293 := eq_true q293
                  have p294 : 0 ≤ (x9_1 : Int) := of_decide_eq_true (by first | (with_reducible assumption) | assumption)
                  have q294 : x9_1 < (l1.length : Int) := of_decide_eq_true (by first | (with_reducible assumption) | assumption)
                  obtain ⟨ad294, e294, hx294_0, hx294_1, hx294_2⟩ := at_T39 HR1.out x9_1 p294 q294
                  have hw294_2 := hx294_2
                  have hw294_1 := hx294_1
                  have hw294_0 := hx294_0
                  obtain rfl : ad273 = ad294 := (by injection e294)
                  replace hx294_0 := pw_cell_below HB.out hx294_0
                  replace hx294_1 := pw_cell_below HB.out hx294_1
                  replace hx294_2 := pw_cell_below HB.out hx294_2
                  replace p294 := eq_true p294
                  replace q294 := eq_true q294
                  have p295 : 0 ≤ (x9_1 : Int) := of_decide_eq_true (by first | (with_reducible assumption) | assumption)
                  have q295 : x9_1 < (l1.length : Int) := of_decide_eq_true (by first | (with_reducible assumption) | assumption)
                  obtain ⟨ad295, e295, hx295_0, hx295_1, hx295_2⟩ := at_T39 HR1.out x9_1 p295 q295
                  have hw295_2 := hx295_2
                  have hw295_1 := hx295_1
                  have hw295_0 := hx295_0
                  obtain rfl : ad273 = ad295 := (by injection e295)
                  replace hx295_0 := pw_cell_below HB.out hx295_0
                  replace hx295_1 := pw_cell_below HB.out hx295_1
                  replace hx295_2 := pw_cell_below HB.out hx295_2
                  replace p295 := eq_true p295
                  replace q295 := eq_true q295
                  refine start_ (n := 30) (S := fun w' => w'.cell? (ad273.add ((x9_1).toNat * 3)) = some (.int .i64 ((rd_T39 l1 x9_1).f0.f0)) ∧ w'.cell? ⟨(ad273.add ((x9_1).toNat * 3)).block, (ad273.add ((x9_1).toNat * 3)).off + 1, none⟩ = some (.int .i64 ((rd_T39 l1 x9_1).f0.f1)) ∧ w'.cell? ⟨(ad273.add ((x9_1).toNat * 3)).block, (ad273.add ((x9_1).toNat * 3)).off + 2, none⟩ = some (.int .i64 ((rd_T39 l1 x9_1).f1)) ∧ w'.cell? (ad273.add ((x9_1).toNat * 3)) = some (.int .i64 ((rd_T39 l1 x9_1).f0.f0)) ∧ w'.cell? ⟨(ad273.add ((x9_1).toNat * 3)).block, (ad273.add ((x9_1).toNat * 3)).off + 1, none⟩ = some (.int .i64 ((rd_T39 l1 x9_1).f0.f1)) ∧ w'.cell? ⟨(ad273.add ((x9_1).toNat * 3)).block, (ad273.add ((x9_1).toNat * 3)).off + 2, none⟩ = some (.int .i64 ((rd_T39 l1 x9_1).f1)) ∧ w'.cell? (ad273.add ((x9_1).toNat * 3)) = some (.int .i64 ((rd_T39 l1 x9_1).f0.f0)) ∧ w'.cell? ⟨(ad273.add ((x9_1).toNat * 3)).block, (ad273.add ((x9_1).toNat * 3)).off + 1, none⟩ = some (.int .i64 ((rd_T39 l1 x9_1).f0.f1)) ∧ w'.cell? ⟨(ad273.add ((x9_1).toNat * 3)).block, (ad273.add ((x9_1).toNat * 3)).off + 2, none⟩ = some (.int .i64 ((rd_T39 l1 x9_1).f1)) ∧ w'.cell? (ad273.add ((x9_1).toNat * 3)) = some (.int .i64 ((rd_T39 l1 x9_1).f0.f0)) ∧ w'.cell? ⟨(ad273.add ((x9_1).toNat * 3)).block, (ad273.add ((x9_1).toNat * 3)).off + 1, none⟩ = some (.int .i64 ((rd_T39 l1 x9_1).f0.f1)) ∧ w'.cell? ⟨(ad273.add ((x9_1).toNat * 3)).block, (ad273.add ((x9_1).toNat * 3)).off + 2, none⟩ = some (.int .i64 ((rd_T39 l1 x9_1).f1))) (ds := []) #[false,false,false,false,false,false,false,false,false,false,false,false,false,false,false,false,false,false,false,false,false,false,false,false,false,false,false,false,false,false] (by kernel_rfl) rfl rfl ⟨(pw_cell_below HB.out hw292_0), (pw_cell_below HB.out hw292_1), (pw_cell_below HB.out hw292_2), (pw_cell_below HB.out hw293_0), (pw_cell_below HB.out hw293_1), (pw_cell_below HB.out hw293_2), (pw_cell_below HB.out hw294_0), (pw_cell_below HB.out hw294_1), (pw_cell_below HB.out hw294_2), (pw_cell_below HB.out hw295_0), (pw_cell_below HB.out hw295_1), (pw_cell_below HB.out hw295_2)⟩ (fun hHeld => ?_); refine with_tabW racewaylaw15_ChartServes.tab20 racewaylaw15_ChartServes.bits20 (fun HT_ HW_ => ?_)
                  generalize wc.drew = w51 at HoL HoM BK272 BK280 HB hx292_0 hx292_1 hx292_2 hx293_0 hx293_1 hx293_2 hx294_0 hx294_1 hx294_2 hx295_0 hx295_1 hx295_2 hHeld ⊢
                  refine pure_ (i := 0) (N := some 101) (v := ?_) (a' := ?_) #[true,false,false,false,false,false,false,false,false,false,false,false,false,false,false,false,false,false,false,false,false,false,false,false,false,false,false,false,false,false] rfl rfl (any_of HT_.out (by kernel_rfl)) (fun _ _ _ h => h) (Or.inl ⟨by rfl, ?_⟩) ?_ ?_
                  rotate_left
                  ·intro w'
                   go_simp
                   with_reducible rfl
                  rotate_left
                  ·simp only [Act.put, setIfInBounds_toArray, set_cons_zero, set_cons_succ, i64_w, i32_w]
                   rfl
                  refine pure_ (i := 1) (N := some 102) (v := ?_) (a' := ?_) #[true,true,false,false,false,false,false,false,false,false,false,false,false,false,false,false,false,false,false,false,false,false,false,false,false,false,false,false,false,false] rfl rfl (any_of HT_.out (by kernel_rfl)) (fun _ _ _ h => h) (Or.inl ⟨by rfl, ?_⟩) ?_ ?_
                  rotate_left
                  ·intro w'
                   go_simp
                   with_reducible rfl
                  rotate_left
                  ·simp only [Act.put, setIfInBounds_toArray, set_cons_zero, set_cons_succ, i64_w, i32_w]
                   rfl
                  refine pure_ (i := 2) (N := some 103) (v := ?_) (a' := ?_) #[true,true,true,false,false,false,false,false,false,false,false,false,false,false,false,false,false,false,false,false,false,false,false,false,false,false,false,false,false,false] rfl rfl (any_of HT_.out (by kernel_rfl)) (fun _ _ _ h => h) (Or.inl ⟨by rfl, ?_⟩) ?_ ?_
                  rotate_left
                  ·intro w'
                   go_simp
                   with_reducible rfl
                  rotate_left
                  ·simp only [Act.put, setIfInBounds_toArray, set_cons_zero, set_cons_succ, i64_w, i32_w]
                   rfl
                  refine pure_ (i := 3) (N := some 104) (v := ?_) (a' := ?_) #[true,true,true,true,false,false,false,false,false,false,false,false,false,false,false,false,false,false,false,false,false,false,false,false,false,false,false,false,false,false] rfl rfl (any_of HT_.out (by kernel_rfl)) (fun _ _ _ h => h) (Or.inl ⟨by rfl, ?_⟩) ?_ ?_
                  rotate_left
                  ·intro w'
                   go_simp
                   with_reducible rfl
                  rotate_left
                  ·simp only [Act.put, setIfInBounds_toArray, set_cons_zero, set_cons_succ, i64_w, i32_w]
                   rfl
                  refine pure_ (i := 4) (N := some 105) (v := ?_) (a' := ?_) #[true,true,true,true,true,false,false,false,false,false,false,false,false,false,false,false,false,false,false,false,false,false,false,false,false,false,false,false,false,false] rfl rfl (any_of HT_.out (by kernel_rfl)) (fun _ _ _ h => h) (Or.inl ⟨by rfl, ?_⟩) ?_ ?_
                  rotate_left
                  ·intro w'
                   go_simp
                   with_reducible rfl
                  rotate_left
                  ·simp only [Act.put, setIfInBounds_toArray, set_cons_zero, set_cons_succ, i64_w, i32_w]
                   rfl
                  refine pure_ (i := 5) (N := some 106) (v := ?_) (a' := ?_) #[true,true,true,true,true,true,false,false,false,false,false,false,false,false,false,false,false,false,false,false,false,false,false,false,false,false,false,false,false,false] rfl rfl (any_of HT_.out (by kernel_rfl)) (fun _ _ _ h => h) (Or.inl ⟨by rfl, ?_⟩) ?_ ?_
                  rotate_left
                  ·intro w'
                   go_simp
                   with_reducible rfl
                  rotate_left
                  ·simp only [Act.put, setIfInBounds_toArray, set_cons_zero, set_cons_succ, i64_w, i32_w]
                   rfl
                  refine pure_ (i := 7) (N := some 108) (v := ?_) (a' := ?_) #[true,true,true,true,true,true,false,true,false,false,false,false,false,false,false,false,false,false,false,false,false,false,false,false,false,false,false,false,false,false] rfl rfl (any_of HT_.out (by kernel_rfl)) (fun _ _ _ h => h) (Or.inl ⟨by rfl, ?_⟩) ?_ ?_
                  rotate_left
                  ·intro w'
                   go_simp
                   with_reducible rfl
                  rotate_left
                  ·simp only [Act.put, setIfInBounds_toArray, set_cons_zero, set_cons_succ, i64_w, i32_w]
                   rfl
                  refine pure_ (i := 8) (N := some 109) (v := ?_) (a' := ?_) #[true,true,true,true,true,true,false,true,true,false,false,false,false,false,false,false,false,false,false,false,false,false,false,false,false,false,false,false,false,false] rfl rfl (any_of HT_.out (by kernel_rfl)) (fun _ _ _ h => h) (Or.inl ⟨by rfl, ?_⟩) ?_ ?_
                  rotate_left
                  ·intro w'
                   go_simp
                   with_reducible rfl
                  rotate_left
                  ·simp only [Act.put, setIfInBounds_toArray, set_cons_zero, set_cons_succ, i64_w, i32_w]
                   rfl
                  refine pure_ (i := 9) (N := some 110) (v := ?_) (a' := ?_) #[true,true,true,true,true,true,false,true,true,true,false,false,false,false,false,false,false,false,false,false,false,false,false,false,false,false,false,false,false,false] rfl rfl (any_of HT_.out (by kernel_rfl)) (fun _ _ _ h => h) (Or.inl ⟨by rfl, ?_⟩) ?_ ?_
                  rotate_left
                  ·intro w'
                   go_simp
                   with_reducible rfl
                  rotate_left
                  ·simp only [Act.put, setIfInBounds_toArray, set_cons_zero, set_cons_succ, i64_w, i32_w]
                   rfl
                  refine pure_ (i := 10) (N := some 111) (v := ?_) (a' := ?_) #[true,true,true,true,true,true,false,true,true,true,true,false,false,false,false,false,false,false,false,false,false,false,false,false,false,false,false,false,false,false] rfl rfl (any_of HT_.out (by kernel_rfl)) (fun _ _ _ h => h) (Or.inl ⟨by rfl, ?_⟩) ?_ ?_
                  rotate_left
                  ·intro w'
                   go_simp
                   with_reducible rfl
                  rotate_left
                  ·simp only [Act.put, setIfInBounds_toArray, set_cons_zero, set_cons_succ, i64_w, i32_w]
                   rfl
                  refine pure_ (i := 11) (N := some 112) (v := ?_) (a' := ?_) #[true,true,true,true,true,true,false,true,true,true,true,true,false,false,false,false,false,false,false,false,false,false,false,false,false,false,false,false,false,false] rfl rfl (any_of HT_.out (by kernel_rfl)) (fun _ _ _ h => h) (Or.inl ⟨by rfl, ?_⟩) ?_ ?_
                  rotate_left
                  ·intro w'
                   go_simp
                   with_reducible rfl
                  rotate_left
                  ·simp only [Act.put, setIfInBounds_toArray, set_cons_zero, set_cons_succ, i64_w, i32_w]
                   rfl
                  refine pure_ (i := 14) (N := some 115) (v := ?_) (a' := ?_) #[true,true,true,true,true,true,false,true,true,true,true,true,false,false,true,false,false,false,false,false,false,false,false,false,false,false,false,false,false,false] rfl rfl (any_of HT_.out (by kernel_rfl)) (fun _ _ _ h => h) (Or.inl ⟨by rfl, ?_⟩) ?_ ?_
                  rotate_left
                  ·intro w'
                   go_simp
                   with_reducible rfl
                  rotate_left
                  ·simp only [Act.put, setIfInBounds_toArray, set_cons_zero, set_cons_succ, i64_w, i32_w]
                   rfl
                  refine pure_ (i := 15) (N := some 116) (v := ?_) (a' := ?_) #[true,true,true,true,true,true,false,true,true,true,true,true,false,false,true,true,false,false,false,false,false,false,false,false,false,false,false,false,false,false] rfl rfl (any_of HT_.out (by kernel_rfl)) (fun _ _ _ h => h) (Or.inl ⟨by rfl, ?_⟩) ?_ ?_
                  rotate_left
                  ·intro w'
                   go_simp
                   with_reducible rfl
                  rotate_left
                  ·simp only [Act.put, setIfInBounds_toArray, set_cons_zero, set_cons_succ, i64_w, i32_w]
                   rfl
                  refine pure_ (i := 16) (N := some 117) (v := ?_) (a' := ?_) #[true,true,true,true,true,true,false,true,true,true,true,true,false,false,true,true,true,false,false,false,false,false,false,false,false,false,false,false,false,false] rfl rfl (any_of HT_.out (by kernel_rfl)) (fun _ _ _ h => h) (Or.inl ⟨by rfl, ?_⟩) ?_ ?_
                  rotate_left
                  ·intro w'
                   go_simp
                   with_reducible rfl
                  rotate_left
                  ·simp only [Act.put, setIfInBounds_toArray, set_cons_zero, set_cons_succ, i64_w, i32_w]
                   rfl
                  refine pure_ (i := 17) (N := some 118) (v := ?_) (a' := ?_) #[true,true,true,true,true,true,false,true,true,true,true,true,false,false,true,true,true,true,false,false,false,false,false,false,false,false,false,false,false,false] rfl rfl (any_of HT_.out (by kernel_rfl)) (fun _ _ _ h => h) (Or.inl ⟨by rfl, ?_⟩) ?_ ?_
                  rotate_left
                  ·intro w'
                   go_simp
                   with_reducible rfl
                  rotate_left
                  ·simp only [Act.put, setIfInBounds_toArray, set_cons_zero, set_cons_succ, i64_w, i32_w]
                   rfl
                  refine pure_ (i := 18) (N := some 119) (v := ?_) (a' := ?_) #[true,true,true,true,true,true,false,true,true,true,true,true,false,false,true,true,true,true,true,false,false,false,false,false,false,false,false,false,false,false] rfl rfl (any_of HT_.out (by kernel_rfl)) (fun _ _ _ h => h) (Or.inl ⟨by rfl, ?_⟩) ?_ ?_
                  rotate_left
                  ·intro w'
                   go_simp
                   with_reducible rfl
                  rotate_left
                  ·simp only [Act.put, setIfInBounds_toArray, set_cons_zero, set_cons_succ, i64_w, i32_w]
                   rfl
                  refine pure_ (i := 20) (N := some 121) (v := ?_) (a' := ?_) #[true,true,true,true,true,true,false,true,true,true,true,true,false,false,true,true,true,true,true,false,true,false,false,false,false,false,false,false,false,false] rfl rfl (any_of HT_.out (by kernel_rfl)) (fun _ _ _ h => h) (Or.inl ⟨by rfl, ?_⟩) ?_ ?_
                  rotate_left
                  ·intro w'
                   go_simp
                   with_reducible rfl
                  rotate_left
                  ·simp only [Act.put, setIfInBounds_toArray, set_cons_zero, set_cons_succ, i64_w, i32_w]
                   rfl
                  refine pure_ (i := 21) (N := some 122) (v := ?_) (a' := ?_) #[true,true,true,true,true,true,false,true,true,true,true,true,false,false,true,true,true,true,true,false,true,true,false,false,false,false,false,false,false,false] rfl rfl (any_of HT_.out (by kernel_rfl)) (fun _ _ _ h => h) (Or.inl ⟨by rfl, ?_⟩) ?_ ?_
                  rotate_left
                  ·intro w'
                   go_simp
                   with_reducible rfl
                  rotate_left
                  ·simp only [Act.put, setIfInBounds_toArray, set_cons_zero, set_cons_succ, i64_w, i32_w]
                   rfl
                  refine pure_ (i := 22) (N := some 123) (v := ?_) (a' := ?_) #[true,true,true,true,true,true,false,true,true,true,true,true,false,false,true,true,true,true,true,false,true,true,true,false,false,false,false,false,false,false] rfl rfl (any_of HT_.out (by kernel_rfl)) (fun _ _ _ h => h) (Or.inl ⟨by rfl, ?_⟩) ?_ ?_
                  rotate_left
                  ·intro w'
                   go_simp
                   with_reducible rfl
                  rotate_left
                  ·simp only [Act.put, setIfInBounds_toArray, set_cons_zero, set_cons_succ, i64_w, i32_w]
                   rfl
                  refine pure_ (i := 23) (N := some 124) (v := ?_) (a' := ?_) #[true,true,true,true,true,true,false,true,true,true,true,true,false,false,true,true,true,true,true,false,true,true,true,true,false,false,false,false,false,false] rfl rfl (any_of HT_.out (by kernel_rfl)) (fun _ _ _ h => h) (Or.inl ⟨by rfl, ?_⟩) ?_ ?_
                  rotate_left
                  ·intro w'
                   go_simp
                   with_reducible rfl
                  rotate_left
                  ·simp only [Act.put, setIfInBounds_toArray, set_cons_zero, set_cons_succ, i64_w, i32_w]
                   rfl
                  refine pure_ (i := 24) (N := some 125) (v := ?_) (a' := ?_) #[true,true,true,true,true,true,false,true,true,true,true,true,false,false,true,true,true,true,true,false,true,true,true,true,true,false,false,false,false,false] rfl rfl (any_of HT_.out (by kernel_rfl)) (fun _ _ _ h => h) (Or.inl ⟨by rfl, ?_⟩) ?_ ?_
                  rotate_left
                  ·intro w'
                   go_simp
                   with_reducible rfl
                  rotate_left
                  ·simp only [Act.put, setIfInBounds_toArray, set_cons_zero, set_cons_succ, i64_w, i32_w]
                   rfl
                  refine pure_ (i := 29) (N := some 130) (v := ?_) (a' := ?_) #[true,true,true,true,true,true,false,true,true,true,true,true,false,false,true,true,true,true,true,false,true,true,true,true,true,false,false,false,false,true] rfl rfl (any_of HT_.out (by kernel_rfl)) (fun _ _ _ h => h) (Or.inl ⟨by rfl, ?_⟩) ?_ ?_
                  rotate_left
                  ·intro w'
                   go_simp
                   with_reducible rfl
                  rotate_left
                  ·simp only [Act.put, setIfInBounds_toArray, set_cons_zero, set_cons_succ, i64_w, i32_w]
                   rfl
                  refine take_ (i := 6) (N := some 107) (v := ?_) (a' := ?_) #[true,true,true,true,true,true,true,true,true,true,true,true,false,false,true,true,true,true,true,false,true,true,true,true,true,false,false,false,false,true] rfl rfl (take_ofW HT_.out HW_.out (by kernel_rfl)) (fun _ _ _ h => h) (Or.inl ⟨by rfl, ?_⟩) hHeld ?_ ?_
                  rotate_left
                  ·rintro w' ⟨s0, s1, s2, s3, s4, s5, s6, s7, s8, s9, s10, s11⟩
                   go_simp
                   with_reducible rfl
                  rotate_left
                  ·simp only [Act.put, setIfInBounds_toArray, set_cons_zero, set_cons_succ, i64_w, i32_w]
                   rfl
                  refine take_ (i := 12) (N := some 113) (v := ?_) (a' := ?_) #[true,true,true,true,true,true,true,true,true,true,true,true,true,false,true,true,true,true,true,false,true,true,true,true,true,false,false,false,false,true] rfl rfl (take_ofW HT_.out HW_.out (by kernel_rfl)) (fun _ _ _ h => h) (Or.inl ⟨by rfl, ?_⟩) hHeld ?_ ?_
                  rotate_left
                  ·rintro w' ⟨s0, s1, s2, s3, s4, s5, s6, s7, s8, s9, s10, s11⟩
                   go_simp
                   with_reducible rfl
                  rotate_left
                  ·simp only [Act.put, setIfInBounds_toArray, set_cons_zero, set_cons_succ, i64_w, i32_w]
                   rfl
                  refine pure_ (i := 13) (N := some 114) (v := ?_) (a' := ?_) #[true,true,true,true,true,true,true,true,true,true,true,true,true,true,true,true,true,true,true,false,true,true,true,true,true,false,false,false,false,true] rfl rfl (any_of HT_.out (by kernel_rfl)) (fun _ _ _ h => h) (Or.inl ⟨by rfl, ?_⟩) ?_ ?_
                  rotate_left
                  ·intro w'
                   go_simp
                   with_reducible rfl
                  rotate_left
                  ·simp only [Act.put, setIfInBounds_toArray, set_cons_zero, set_cons_succ, i64_w, i32_w]
                   rfl
                  refine take_ (i := 19) (N := some 120) (v := ?_) (a' := ?_) #[true,true,true,true,true,true,true,true,true,true,true,true,true,true,true,true,true,true,true,true,true,true,true,true,true,false,false,false,false,true] rfl rfl (take_ofW HT_.out HW_.out (by kernel_rfl)) (fun _ _ _ h => h) (Or.inl ⟨by rfl, ?_⟩) hHeld ?_ ?_
                  rotate_left
                  ·rintro w' ⟨s0, s1, s2, s3, s4, s5, s6, s7, s8, s9, s10, s11⟩
                   go_simp
                   with_reducible rfl
                  rotate_left
                  ·simp only [Act.put, setIfInBounds_toArray, set_cons_zero, set_cons_succ, i64_w, i32_w]
                   rfl
                  refine take_ (i := 25) (N := some 126) (v := ?_) (a' := ?_) #[true,true,true,true,true,true,true,true,true,true,true,true,true,true,true,true,true,true,true,true,true,true,true,true,true,true,false,false,false,true] rfl rfl (take_ofW HT_.out HW_.out (by kernel_rfl)) (fun _ _ _ h => h) (Or.inl ⟨by rfl, ?_⟩) hHeld ?_ ?_
                  rotate_left
                  ·rintro w' ⟨s0, s1, s2, s3, s4, s5, s6, s7, s8, s9, s10, s11⟩
                   go_simp
                   with_reducible rfl
                  rotate_left
                  ·simp only [Act.put, setIfInBounds_toArray, set_cons_zero, set_cons_succ, i64_w, i32_w]
                   rfl
                  refine pure_ (i := 26) (N := some 127) (v := ?_) (a' := ?_) #[true,true,true,true,true,true,true,true,true,true,true,true,true,true,true,true,true,true,true,true,true,true,true,true,true,true,true,false,false,true] rfl rfl (any_of HT_.out (by kernel_rfl)) (fun _ _ _ h => h) (Or.inl ⟨by rfl, ?_⟩) ?_ ?_
                  rotate_left
                  ·intro w'
                   go_simp
                   with_reducible rfl
                  rotate_left
                  ·simp only [Act.put, setIfInBounds_toArray, set_cons_zero, set_cons_succ, i64_w, i32_w]
                   rfl
                  refine one_ (i := 27) (N := some 128) #[true,true,true,true,true,true,true,true,true,true,true,true,true,true,true,true,true,true,true,true,true,true,true,true,true,true,true,true,false,true] rfl rfl (one_of HT_.out (by kernel_rfl)) (by decide) (fun K hK => ?_)
                  refine Kd.R_lit_step (Kd.int .i64) _ 3 ?hg (N := 128) ?hd (xs := ([a2, (rd_T39 l1 x9_1).f0.f0, wrap64 (((rd_T39 l1 x9_1).f0.f1) - 1), (rd_T39 l1 x9_1).f0.f1, wrap64 (((rd_T39 l1 x9_1).f0.f0) - 1), 0, 65535] : List Int)) (inner := [.int .i64 a2, .int .i64 ((rd_T39 l1 x9_1).f0.f0), .int .i64 (wrap64 (((rd_T39 l1 x9_1).f0.f1) - 1)), .int .i64 ((rd_T39 l1 x9_1).f0.f1), .int .i64 (wrap64 (((rd_T39 l1 x9_1).f0.f0) - 1)), .int .i64 0, .int .i64 65535]) (ok := fun _ => True) (okp := fun _ => True) ?hr ?hp (fun _ hk => hk) trivial (Below.refl _ _) (Nat.le_refl _) (by simp) ?_; (case hd => rfl); (case hg => rfl); (case hr => first | (go_simp; done) | (go_simp; rfl)); (case hp => exact (Reps.one (show Kd.M (Kd.int .i64) _ _ _ a2 [.int .i64 a2] from rfl) (Reps.one (show Kd.M (Kd.int .i64) _ _ _ ((rd_T39 l1 x9_1).f0.f0) [.int .i64 ((rd_T39 l1 x9_1).f0.f0)] from rfl) (Reps.one (show Kd.M (Kd.int .i64) _ _ _ (wrap64 (((rd_T39 l1 x9_1).f0.f1) - 1)) [.int .i64 (wrap64 (((rd_T39 l1 x9_1).f0.f1) - 1))] from rfl) (Reps.one (show Kd.M (Kd.int .i64) _ _ _ ((rd_T39 l1 x9_1).f0.f1) [.int .i64 ((rd_T39 l1 x9_1).f0.f1)] from rfl) (Reps.one (show Kd.M (Kd.int .i64) _ _ _ (wrap64 (((rd_T39 l1 x9_1).f0.f0) - 1)) [.int .i64 (wrap64 (((rd_T39 l1 x9_1).f0.f0) - 1))] from rfl) (Reps.one (show Kd.M (Kd.int .i64) _ _ _ 0 [.int .i64 0] from rfl) (Reps.one (show Kd.M (Kd.int .i64) _ _ _ 65535 [.int .i64 65535] from rfl) (Reps.none _ _)))))))))
                  intro v297 w52 ho53 hb hg_ hnew_
                  clear hg_ hnew_
                  (first | rw [← Ny296.out] at ho53 | (simp only [Int.reduceToNat] at ho53; rw [← Ny296.out] at ho53))
                  have n0_ := ak (Kd.R_below (by (with_reducible repeat (first | apply ra | apply rn | apply rw1)); exact HoL.out) hb)
                  have n1_ := ak (Kd.R_below (by (with_reducible repeat (first | apply ra | apply rn | apply rw1)); exact HoM.out) hb)
                  have n2_ := ak (Kd.R_lower ho53 (below_size (by repeat (first | (with_reducible first | exact HB.out | apply ba | apply bd | apply b1 | refine bs ?_ GE272.out | refine bs ?_ GE280.out) | exact HB.out))))
                  have n3_ := ak (blk_below (g := gb272) (o := .cells #[.int .i64 xE, .slice Ao17 xL.length co17] 24 (0, 0)) (by (with_reducible repeat (first | refine kn ?_ _ | refine kd ?_ | refine ka ?_ _)); exact BK272.out) hb)
                  have n4_ := ak (blk_below (g := gb280) (o := .cells #[.int .i64 t275, .slice Ao23 t276.length co23] 24 (0, 0)) (by (with_reducible repeat (first | refine kn ?_ _ | refine kd ?_ | refine ka ?_ _)); exact BK280.out) hb)
                  have n5_ := ak (below_step (by repeat (first | (with_reducible first | exact HB.out | apply ba | apply bd | apply b1 | refine bs ?_ GE272.out | refine bs ?_ GE280.out) | exact HB.out)) hb)
                  clear HoL
                  clear HoM
                  clear BK272
                  clear BK280
                  clear HB
                  have HoL := n0_
                  have HoM := n1_
                  have HO298 := n2_
                  have BK272 := n3_
                  have BK280 := n4_
                  have HB := n5_
                  clear n0_ n1_ n2_ n3_ n4_ n5_
                  clear hb ho53
                  obtain ⟨Ao54, co54, eo54⟩ := Kd.R_slice HO298.out
                  (first | subst eo54 | (injection eo54 with f1_ f2_ f3_; have f4_ := f1_.symm; have f5_ := f3_.symm; clear f1_ f2_ f3_; subst f4_; subst f5_))
                  refine hK.out _ _ ⟨(pw_cell_below HB.out hw292_0), (pw_cell_below HB.out hw292_1), (pw_cell_below HB.out hw292_2), (pw_cell_below HB.out hw293_0), (pw_cell_below HB.out hw293_1), (pw_cell_below HB.out hw293_2), (pw_cell_below HB.out hw294_0), (pw_cell_below HB.out hw294_1), (pw_cell_below HB.out hw294_2), (pw_cell_below HB.out hw295_0), (pw_cell_below HB.out hw295_1), (pw_cell_below HB.out hw295_2)⟩ (fun hHeld => ?_)
                  clear hK K
                  refine norm_ (a' := ?_) ?_ ?_
                  rotate_left
                  ·show Act.put _ (some 128) _ = _
                   simp only [Act.put, setIfInBounds_toArray, set_cons_zero, set_cons_succ, i64_w, i32_w]
                   rfl
                  refine pure_ (i := 28) (N := some 129) (v := ?_) (a' := ?_) #[true,true,true,true,true,true,true,true,true,true,true,true,true,true,true,true,true,true,true,true,true,true,true,true,true,true,true,true,true,true] rfl rfl (any_of HT_.out (by kernel_rfl)) (fun _ _ _ h => h) (Or.inl ⟨by rfl, ?_⟩) ?_ ?_
                  rotate_left
                  ·intro w'
                   go_simp
                   with_reducible rfl
                  rotate_left
                  ·simp only [Act.put, setIfInBounds_toArray, set_cons_zero, set_cons_succ, i64_w, i32_w]
                   rfl
                  refine done_ (done_of HT_.out (by kernel_rfl)) ?_
                  try go_wp2
                  go_loopg [15, 130] kj35 (fun kq v15 v130 w' => ∃ (x15_5 : Bool) (x130_5 : Int), v15 = .bool x15_5 ∧ v130 = .int .i64 x130_5 ∧ Aside0 (racewaylaw15_ChartServes.l2 kq l1 a2 x9_1 x15_5 y296 (y296.length : Int) x130_5 xE xL t275 t276 = some r) ∧ Aside0 (kq ≤ kj35) ∧ Aside0 (Kd.R (Kd.int .i64) 3 w' w.heap.size (fun _ => True) (.slice Ao54 y296.length co54) y296) ∧ Aside0 (Kd.R k43 43 w' w.heap.size (fun k_ => some k_ ≠ ((.slice Ao23 t276.length co23) : Value).ownBlock) (.slice Ao17 xL.length co17) xL) ∧ Aside0 (Kd.R k43 43 w' w.heap.size (fun k_ => some k_ ≠ ((.slice Ao17 xL.length co17) : Value).ownBlock) (.slice Ao23 t276.length co23) t276) ∧ Aside0 (w'.heap[gb272]? = some (.cells #[.int .i64 xE, (.slice Ao17 xL.length co17)] 24 (0, 0))) ∧ Aside0 (w'.heap[gb280]? = some (.cells #[.int .i64 t275, (.slice Ao23 t276.length co23)] 24 (0, 0))) ∧ Aside0 (Below w.heap.size w w'))
                  case atStart => exact ⟨(false), (0), (by first | rfl | (simp; done) | (simp [*]; done)), (by first | rfl | (simp; done) | (simp [*]; done)), H', ⟨Nat.le_refl _⟩, ⟨by (with_reducible repeat (first | apply ra | apply rn | apply rw1)); exact HO298.out⟩, ⟨by (with_reducible repeat (first | apply ra | apply rn | apply rw1)); exact HoL.out⟩, ⟨by (with_reducible repeat (first | apply ra | apply rn | apply rw1)); exact HoM.out⟩, ⟨by (with_reducible repeat (first | refine kn ?_ _ | refine kd ?_ | refine ka ?_ _)); exact BK272.out⟩, ⟨by (with_reducible repeat (first | refine kn ?_ _ | refine kd ?_ | refine ka ?_ _)); exact BK280.out⟩, ⟨by repeat (first | (with_reducible first | exact HB.out | apply ba | apply bd | apply b1 | refine bs ?_ GE272.out | refine bs ?_ GE280.out) | exact HB.out)⟩⟩
                  case round =>
                   clear H'
                   try clear c1
                   try clear c2
                   try clear p2
                   try clear q2
                   try clear hx2
                   try clear c3
                   try clear c4
                   try clear c5
                   try clear c5b0
                   try clear c5b1
                   try clear p6
                   try clear c8
                   try clear c11
                   try clear c11b0
                   try clear c12
                   try clear c13
                   try clear c13b0
                   try clear c14
                   try clear c14b0
                   try clear c15
                   try clear c16
                   try clear c16b0
                   try clear c16b1
                   try clear c25
                   try clear c27
                   try clear c27b0
                   try clear p27
                   try clear q27
                   try clear hx27
                   try clear c28
                   try clear c28b0
                   try clear p28
                   try clear q28
                   try clear hx28
                   try clear c29
                   try clear c29b0
                   try clear p29
                   try clear q29
                   try clear hx29
                   try clear c30
                   try clear c32
                   try clear c33
                   try clear c38
                   try clear c40
                   try clear c45
                   try clear c48
                   try clear c49
                   try clear c49b0
                   try clear c50
                   try clear c50b0
                   try clear hcz26_0
                   try clear hcz26_1
                   try clear hcz34_0
                   try clear hcz34_1
                   try clear hcz34_2
                   try clear hcz41_0
                   try clear hcz41_1
                   try clear hcz46_0
                   try clear hcz46_1
                   try clear hcz8_0
                   try clear hcz8_1
                   try clear hfz26_0
                   try clear hfz26_1
                   try clear hfz34_0
                   try clear hfz34_1
                   try clear hfz34_2
                   try clear hfz41_0
                   try clear hfz41_1
                   try clear hfz46_0
                   try clear hfz46_1
                   try clear hfz8_0
                   try clear hfz8_1
                   try clear hx273_0
                   try clear hx273_1
                   try clear hx273_2
                   try clear hx274_0
                   try clear hx274_1
                   try clear hx274_2
                   try clear hx285_0
                   try clear hx285_1
                   try clear hx285_2
                   try clear hx292_0
                   try clear hx292_1
                   try clear hx292_2
                   try clear hx293_0
                   try clear hx293_1
                   try clear hx293_2
                   try clear hx294_0
                   try clear hx294_1
                   try clear hx294_2
                   try clear hx295_0
                   try clear hx295_1
                   try clear hx295_2
                   try clear p2
                   try clear p27
                   try clear p273
                   try clear p274
                   try clear p28
                   try clear p285
                   try clear p292
                   try clear p293
                   try clear p294
                   try clear p295
                   try clear p6
                   try clear q2
                   try clear q27
                   try clear q273
                   try clear q274
                   try clear q28
                   try clear q285
                   try clear q292
                   try clear q293
                   try clear q294
                   try clear q295
                   obtain ⟨x15_5, x130_5, rfl, rfl, HA, HK5, HO_128, HoL, HoM, BK272, BK280, HB⟩ := hrel
                   cases gk with
                   | zero => exact absurd HA.out (by simp [racewaylaw15_ChartServes.l2])
                   | succ k5 =>
                    have H := HA.out
                    clear HA
                    simp only [racewaylaw15_ChartServes.l2] at H
                    by_cases c55 : x130_5 < (y296.length : Int)
                    ·rw [if_pos c55] at H
                     have c55b0 : decide (x130_5 < (y296.length : Int)) = true := decide_eq_true c55
                     clear c55
                     by_cases c56 : 0 ≤ x130_5
                     ·rw [if_pos c56] at H
                      have c56b0 : decide (0 ≤ x130_5) = true := decide_eq_true c56
                      clear c56
                      by_cases c57 : x130_5 < (y296.length : Int)
                      ·rw [if_pos c57] at H
                       have c57b0 : decide (x130_5 < (y296.length : Int)) = true := decide_eq_true c57
                       clear c57
                       replace H := Option.bind_eq_some_iff.mp H
                       obtain ⟨t300, A580, H⟩ := H
                       replace H : ((chart_Of.f k5 t275 t276 (rd y296 x130_5)).bind fun t301 => (if 0 ≤ x9_1 then (if x9_1 < (l1.length : Int) then ((place_In.f ((rd_T39 l1 x9_1).f0.f0) ((rd_T39 l1 x9_1).f0.f1) (rd y296 x130_5)).bind fun t303 => (if t303 = true then (if t301 = ((rd_T39 l1 x9_1).f1) then ((place_In.f ((rd_T39 l1 x9_1).f0.f0) ((rd_T39 l1 x9_1).f0.f1) (rd y296 x130_5)).bind fun t306 => (if t306 = true then (racewaylaw15_ChartServes.j6 k5 l1 a2 x9_1 x15_5 t300 t301 y296 (y296.length : Int) x130_5 false xE xL t275 t276) else (racewaylaw15_ChartServes.j6 k5 l1 a2 x9_1 x15_5 t300 t301 y296 (y296.length : Int) x130_5 (t301 != t300) xE xL t275 t276))) else (racewaylaw15_ChartServes.j6 k5 l1 a2 x9_1 x15_5 t300 t301 y296 (y296.length : Int) x130_5 true xE xL t275 t276)) else ((place_In.f ((rd_T39 l1 x9_1).f0.f0) ((rd_T39 l1 x9_1).f0.f1) (rd y296 x130_5)).bind fun t308 => (if t308 = true then (racewaylaw15_ChartServes.j6 k5 l1 a2 x9_1 x15_5 t300 t301 y296 (y296.length : Int) x130_5 false xE xL t275 t276) else (racewaylaw15_ChartServes.j6 k5 l1 a2 x9_1 x15_5 t300 t301 y296 (y296.length : Int) x130_5 (t301 != t300) xE xL t275 t276))))) else (none)) else (none))) = some r := H
                       have A58 := Aside0.mk A580
                       clear A580
                       replace H := Option.bind_eq_some_iff.mp H
                       obtain ⟨t301, A590, H⟩ := H
                       replace H : (if 0 ≤ x9_1 then (if x9_1 < (l1.length : Int) then ((place_In.f ((rd_T39 l1 x9_1).f0.f0) ((rd_T39 l1 x9_1).f0.f1) (rd y296 x130_5)).bind fun t303 => (if t303 = true then (if t301 = ((rd_T39 l1 x9_1).f1) then ((place_In.f ((rd_T39 l1 x9_1).f0.f0) ((rd_T39 l1 x9_1).f0.f1) (rd y296 x130_5)).bind fun t306 => (if t306 = true then (racewaylaw15_ChartServes.j6 k5 l1 a2 x9_1 x15_5 t300 t301 y296 (y296.length : Int) x130_5 false xE xL t275 t276) else (racewaylaw15_ChartServes.j6 k5 l1 a2 x9_1 x15_5 t300 t301 y296 (y296.length : Int) x130_5 (t301 != t300) xE xL t275 t276))) else (racewaylaw15_ChartServes.j6 k5 l1 a2 x9_1 x15_5 t300 t301 y296 (y296.length : Int) x130_5 true xE xL t275 t276)) else ((place_In.f ((rd_T39 l1 x9_1).f0.f0) ((rd_T39 l1 x9_1).f0.f1) (rd y296 x130_5)).bind fun t308 => (if t308 = true then (racewaylaw15_ChartServes.j6 k5 l1 a2 x9_1 x15_5 t300 t301 y296 (y296.length : Int) x130_5 false xE xL t275 t276) else (racewaylaw15_ChartServes.j6 k5 l1 a2 x9_1 x15_5 t300 t301 y296 (y296.length : Int) x130_5 (t301 != t300) xE xL t275 t276))))) else (none)) else (none)) = some r := H
                       have A59 := Aside0.mk A590
                       clear A590
                       have HC60 := Aside0.mk H
                       clear H
                       have p299 : 0 ≤ (x130_5 : Int) := of_decide_eq_true (by first | (with_reducible assumption) | assumption)
                       have q299 : x130_5 < (y296.length : Int) := of_decide_eq_true (by first | (with_reducible assumption) | assumption)
                       obtain ⟨ad299, e299, hx299_0⟩ := Kd.at_int (Kd.R_reads' HO_128.out).2.2 x130_5 p299 q299
                       cases e299
                       replace p299 := eq_true p299
                       replace q299 := eq_true q299
                       try go_wp2
                       have n0_ := ak (rw1 HO_128.out)
                       have n1_ := ak (rw1 HoL.out)
                       have n2_ := ak (rw1 HoM.out)
                       have n3_ := ak (kd BK272.out)
                       have n4_ := ak (kd BK280.out)
                       have n5_ := ak (b1 HB.out)
                       clear HO_128
                       clear HoL
                       clear HoM
                       clear BK272
                       clear BK280
                       clear HB
                       have HO_128 := n0_
                       have HoL := n1_
                       have HoM := n2_
                       have BK272 := n3_
                       have BK280 := n4_
                       have HB := n5_
                       clear n0_ n1_ n2_ n3_ n4_ n5_
                       refine start_ (n := 8) (S := fun w' => w'.cell? ⟨gb272, 0, none⟩ = some (.int .i64 xE) ∧ w'.cell? ⟨gb272, 1, none⟩ = some (.slice Ao17 xL.length co17) ∧ w'.cell? ⟨gb280, 0, none⟩ = some (.int .i64 t275) ∧ w'.cell? ⟨gb280, 1, none⟩ = some (.slice Ao23 t276.length co23)) (ds := []) #[false,false,false,false,false,false,false,false] (by kernel_rfl) rfl rfl ⟨(blk_cell BK272.out 0).trans rfl, (blk_cell BK272.out 1).trans rfl, (blk_cell BK280.out 0).trans rfl, (blk_cell BK280.out 1).trans rfl⟩ (fun hHeld => ?_); refine with_tabW racewaylaw15_ChartServes.tab23 racewaylaw15_ChartServes.bits23 (fun HT_ HW_ => ?_)
                       generalize wr.drew = w61 at HO_128 HoL HoM BK272 BK280 HB hHeld ⊢
                       refine pure_ (i := 1) (N := some 135) (v := ?_) (a' := ?_) #[false,true,false,false,false,false,false,false] rfl rfl (any_of HT_.out (by kernel_rfl)) (fun _ _ _ h => h) (Or.inl ⟨by rfl, ?_⟩) ?_ ?_
                       rotate_left
                       ·intro w'
                        go_simp
                        with_reducible rfl
                       rotate_left
                       ·simp only [Act.put, setIfInBounds_toArray, set_cons_zero, set_cons_succ, i64_w, i32_w]
                        rfl
                       refine pure_ (i := 4) (N := some 138) (v := ?_) (a' := ?_) #[false,true,false,false,true,false,false,false] rfl rfl (any_of HT_.out (by kernel_rfl)) (fun _ _ _ h => h) (Or.inl ⟨by rfl, ?_⟩) ?_ ?_
                       rotate_left
                       ·intro w'
                        go_simp
                        with_reducible rfl
                       rotate_left
                       ·simp only [Act.put, setIfInBounds_toArray, set_cons_zero, set_cons_succ, i64_w, i32_w]
                        rfl
                       refine take_ (i := 0) (N := some 134) (v := ?_) (a' := ?_) #[true,true,false,false,true,false,false,false] rfl rfl (take_ofW HT_.out HW_.out (by kernel_rfl)) (fun _ _ _ h => h) (Or.inl ⟨by rfl, ?_⟩) hHeld ?_ ?_
                       rotate_left
                       ·rintro w' ⟨s0, s1, s2, s3⟩
                        go_simp
                        with_reducible rfl
                       rotate_left
                       ·simp only [Act.put, setIfInBounds_toArray, set_cons_zero, set_cons_succ, i64_w, i32_w]
                        rfl
                       refine take_ (i := 3) (N := some 137) (v := ?_) (a' := ?_) #[true,true,false,true,true,false,false,false] rfl rfl (take_ofW HT_.out HW_.out (by kernel_rfl)) (fun _ _ _ h => h) (Or.inl ⟨by rfl, ?_⟩) hHeld ?_ ?_
                       rotate_left
                       ·rintro w' ⟨s0, s1, s2, s3⟩
                        go_simp
                        with_reducible rfl
                       rotate_left
                       ·simp only [Act.put, setIfInBounds_toArray, set_cons_zero, set_cons_succ, i64_w, i32_w]
                        rfl
                       refine one_ (i := 2) (N := some 136) #[true,true,true,true,true,false,false,false] rfl rfl (one_of HT_.out (by kernel_rfl)) (by decide) (fun K hK => ?_)
                       refine goes_ Try.func17 (by kernel_rfl) rfl #[.agg #[.int .i64 xE, .slice Ao17 xL.length co17], .int .i64 (rd y296 x130_5)] (by rfl) rfl rfl (by (try simp only [List.map_toArray, List.map_cons, List.map_nil]); first | done | rfl | (simp only [List.length_drop, List.length_take]; rfl)) ?_
                       with_reducible refine (chart_Of.calls k5 xE _ _ xL (rd y296 x130_5) t300 _ ?side1 ?side2 A58.out).mono ?_
                       (case side1 => repeat (first | exact (Kd.R_reads' HoL.out).2.2 | (with_reducible refine Kd.C_alloc ?_ _) | (with_reducible refine Kd.C_drewN ?_ _) | (with_reducible refine Kd.C_drew ?_)))
                       (case side2 => exact (Kd.R_reads' HoL.out).2.1)
                       rintro e w62 ⟨rfl, hb⟩
                       refine ⟨_, rfl, ?_⟩
                       have n0_ := ak (Kd.R_below (by (with_reducible repeat (first | apply ra | apply rn | apply rw1)); exact HO_128.out) hb)
                       have n1_ := ak (Kd.R_below (by (with_reducible repeat (first | apply ra | apply rn | apply rw1)); exact HoL.out) hb)
                       have n2_ := ak (Kd.R_below (by (with_reducible repeat (first | apply ra | apply rn | apply rw1)); exact HoM.out) hb)
                       have n3_ := ak (blk_below (g := gb272) (o := .cells #[.int .i64 xE, .slice Ao17 xL.length co17] 24 (0, 0)) (by (with_reducible repeat (first | refine kn ?_ _ | refine kd ?_ | refine ka ?_ _)); exact BK272.out) hb)
                       have n4_ := ak (blk_below (g := gb280) (o := .cells #[.int .i64 t275, .slice Ao23 t276.length co23] 24 (0, 0)) (by (with_reducible repeat (first | refine kn ?_ _ | refine kd ?_ | refine ka ?_ _)); exact BK280.out) hb)
                       have n5_ := ak (below_step (by repeat (first | (with_reducible first | exact HB.out | apply ba | apply bd | apply b1 | refine bs ?_ GE272.out | refine bs ?_ GE280.out) | exact HB.out)) hb)
                       clear HO_128
                       clear HoL
                       clear HoM
                       clear BK272
                       clear BK280
                       clear HB
                       have HO_128 := n0_
                       have HoL := n1_
                       have HoM := n2_
                       have BK272 := n3_
                       have BK280 := n4_
                       have HB := n5_
                       clear n0_ n1_ n2_ n3_ n4_ n5_
                       (try clear hb)
                       (try clear hb2)
                       (try clear hk)
                       (try clear hi)
                       refine hK.out _ _ ⟨(blk_cell BK272.out 0).trans rfl, (blk_cell BK272.out 1).trans rfl, (blk_cell BK280.out 0).trans rfl, (blk_cell BK280.out 1).trans rfl⟩ (fun hHeld => ?_)
                       clear hK K
                       refine norm_ (a' := ?_) ?_ ?_
                       rotate_left
                       ·show Act.put _ (some 136) _ = _
                        simp only [Act.put, setIfInBounds_toArray, set_cons_zero, set_cons_succ, i64_w, i32_w]
                        rfl
                       refine one_ (i := 5) (N := some 139) #[true,true,true,true,true,true,false,false] rfl rfl (one_of HT_.out (by kernel_rfl)) (by decide) (fun K hK => ?_)
                       refine goes_ Try.func17 (by kernel_rfl) rfl #[.agg #[.int .i64 t275, .slice Ao23 t276.length co23], .int .i64 (rd y296 x130_5)] (by rfl) rfl rfl (by (try simp only [List.map_toArray, List.map_cons, List.map_nil]); first | done | rfl | (simp only [List.length_drop, List.length_take]; rfl)) ?_
                       with_reducible refine (chart_Of.calls k5 t275 _ _ t276 (rd y296 x130_5) t301 _ ?side1 ?side2 A59.out).mono ?_
                       (case side1 => repeat (first | exact (Kd.R_reads' HoM.out).2.2 | (with_reducible refine Kd.C_alloc ?_ _) | (with_reducible refine Kd.C_drewN ?_ _) | (with_reducible refine Kd.C_drew ?_)))
                       (case side2 => exact (Kd.R_reads' HoM.out).2.1)
                       rintro e w63 ⟨rfl, hb⟩
                       refine ⟨_, rfl, ?_⟩
                       have n0_ := ak (Kd.R_below (by (with_reducible repeat (first | apply ra | apply rn | apply rw1)); exact HO_128.out) hb)
                       have n1_ := ak (Kd.R_below (by (with_reducible repeat (first | apply ra | apply rn | apply rw1)); exact HoL.out) hb)
                       have n2_ := ak (Kd.R_below (by (with_reducible repeat (first | apply ra | apply rn | apply rw1)); exact HoM.out) hb)
                       have n3_ := ak (blk_below (g := gb272) (o := .cells #[.int .i64 xE, .slice Ao17 xL.length co17] 24 (0, 0)) (by (with_reducible repeat (first | refine kn ?_ _ | refine kd ?_ | refine ka ?_ _)); exact BK272.out) hb)
                       have n4_ := ak (blk_below (g := gb280) (o := .cells #[.int .i64 t275, .slice Ao23 t276.length co23] 24 (0, 0)) (by (with_reducible repeat (first | refine kn ?_ _ | refine kd ?_ | refine ka ?_ _)); exact BK280.out) hb)
                       have n5_ := ak (below_step (by repeat (first | (with_reducible first | exact HB.out | apply ba | apply bd | apply b1 | refine bs ?_ GE272.out | refine bs ?_ GE280.out) | exact HB.out)) hb)
                       clear HO_128
                       clear HoL
                       clear HoM
                       clear BK272
                       clear BK280
                       clear HB
                       have HO_128 := n0_
                       have HoL := n1_
                       have HoM := n2_
                       have BK272 := n3_
                       have BK280 := n4_
                       have HB := n5_
                       clear n0_ n1_ n2_ n3_ n4_ n5_
                       (try clear hb)
                       (try clear hb2)
                       (try clear hk)
                       (try clear hi)
                       refine hK.out _ _ ⟨(blk_cell BK272.out 0).trans rfl, (blk_cell BK272.out 1).trans rfl, (blk_cell BK280.out 0).trans rfl, (blk_cell BK280.out 1).trans rfl⟩ (fun hHeld => ?_)
                       clear hK K
                       refine norm_ (a' := ?_) ?_ ?_
                       rotate_left
                       ·show Act.put _ (some 139) _ = _
                        simp only [Act.put, setIfInBounds_toArray, set_cons_zero, set_cons_succ, i64_w, i32_w]
                        rfl
                       refine pure_ (i := 6) (N := some 18) (v := ?_) (a' := ?_) #[true,true,true,true,true,true,true,false] rfl rfl (any_of HT_.out (by kernel_rfl)) (fun _ _ _ h => h) (Or.inl ⟨by rfl, ?_⟩) ?_ ?_
                       rotate_left
                       ·intro w'
                        go_simp
                        with_reducible rfl
                       rotate_left
                       ·simp only [Act.put, setIfInBounds_toArray, set_cons_zero, set_cons_succ, i64_w, i32_w]
                        rfl
                       refine pure_ (i := 7) (N := some 19) (v := ?_) (a' := ?_) #[true,true,true,true,true,true,true,true] rfl rfl (any_of HT_.out (by kernel_rfl)) (fun _ _ _ h => h) (Or.inl ⟨by rfl, ?_⟩) ?_ ?_
                       rotate_left
                       ·intro w'
                        go_simp
                        with_reducible rfl
                       rotate_left
                       ·simp only [Act.put, setIfInBounds_toArray, set_cons_zero, set_cons_succ, i64_w, i32_w]
                        rfl
                       refine done_ (done_of HT_.out (by kernel_rfl)) ?_
                       go_upto_region 24 with (fail)
                       go_cut [170] (fun v170 wc => ∃ (kq : Nat) (x170_59 : Bool), v170 = .bool x170_59 ∧ Aside0 (racewaylaw15_ChartServes.j6 kq l1 a2 x9_1 x15_5 t300 t301 y296 (y296.length : Int) x130_5 x170_59 xE xL t275 t276 = some r) ∧ Aside0 (kq ≤ k5) ∧ Aside0 (Kd.R (Kd.int .i64) 3 wc w.heap.size (fun _ => True) (.slice (some ad299) y296.length co54) y296) ∧ Aside0 (Kd.R k43 43 wc w.heap.size (fun k_ => some k_ ≠ ((.slice Ao23 t276.length co23) : Value).ownBlock) (.slice Ao17 xL.length co17) xL) ∧ Aside0 (Kd.R k43 43 wc w.heap.size (fun k_ => some k_ ≠ ((.slice Ao17 xL.length co17) : Value).ownBlock) (.slice Ao23 t276.length co23) t276) ∧ Aside0 (wc.heap[gb272]? = some (.cells #[.int .i64 xE, (.slice Ao17 xL.length co17)] 24 (0, 0))) ∧ Aside0 (wc.heap[gb280]? = some (.cells #[.int .i64 t275, (.slice Ao23 t276.length co23)] 24 (0, 0))) ∧ Aside0 (Below w.heap.size w wc))
                       case first =>
                        have H := HC60.out
                        clear HC60
                        by_cases c64 : 0 ≤ x9_1
                        ·rw [if_pos c64] at H
                         have c64b0 : decide (0 ≤ x9_1) = true := decide_eq_true c64
                         clear c64
                         (first | rw [c64b0] | (simp only [i64_w, i32_w]; rw [c64b0]) | skip)
                         by_cases c65 : x9_1 < (l1.length : Int)
                         ·rw [if_pos c65] at H
                          have c65b0 : decide (x9_1 < (l1.length : Int)) = true := decide_eq_true c65
                          clear c65
                          replace H := Option.bind_eq_some_iff.mp H
                          obtain ⟨t303, A660, H⟩ := H
                          replace H : (if t303 = true then (if t301 = ((rd_T39 l1 x9_1).f1) then ((place_In.f ((rd_T39 l1 x9_1).f0.f0) ((rd_T39 l1 x9_1).f0.f1) (rd y296 x130_5)).bind fun t306 => (if t306 = true then (racewaylaw15_ChartServes.j6 k5 l1 a2 x9_1 x15_5 t300 t301 y296 (y296.length : Int) x130_5 false xE xL t275 t276) else (racewaylaw15_ChartServes.j6 k5 l1 a2 x9_1 x15_5 t300 t301 y296 (y296.length : Int) x130_5 (t301 != t300) xE xL t275 t276))) else (racewaylaw15_ChartServes.j6 k5 l1 a2 x9_1 x15_5 t300 t301 y296 (y296.length : Int) x130_5 true xE xL t275 t276)) else ((place_In.f ((rd_T39 l1 x9_1).f0.f0) ((rd_T39 l1 x9_1).f0.f1) (rd y296 x130_5)).bind fun t308 => (if t308 = true then (racewaylaw15_ChartServes.j6 k5 l1 a2 x9_1 x15_5 t300 t301 y296 (y296.length : Int) x130_5 false xE xL t275 t276) else (racewaylaw15_ChartServes.j6 k5 l1 a2 x9_1 x15_5 t300 t301 y296 (y296.length : Int) x130_5 (t301 != t300) xE xL t275 t276)))) = some r := H
                          have A66 := Aside0.mk A660
                          clear A660
                          by_cases c67 : t303 = true
                          ·subst c67
                           have H1 : (if t301 = ((rd_T39 l1 x9_1).f1) then ((place_In.f ((rd_T39 l1 x9_1).f0.f0) ((rd_T39 l1 x9_1).f0.f1) (rd y296 x130_5)).bind fun t306 => (if t306 = true then (racewaylaw15_ChartServes.j6 k5 l1 a2 x9_1 x15_5 t300 t301 y296 (y296.length : Int) x130_5 false xE xL t275 t276) else (racewaylaw15_ChartServes.j6 k5 l1 a2 x9_1 x15_5 t300 t301 y296 (y296.length : Int) x130_5 (t301 != t300) xE xL t275 t276))) else (racewaylaw15_ChartServes.j6 k5 l1 a2 x9_1 x15_5 t300 t301 y296 (y296.length : Int) x130_5 true xE xL t275 t276)) = some r := by rw [if_pos rfl] at H; exact H
                           clear H
                           have H := H1
                           clear H1
                           by_cases c68 : t301 = ((rd_T39 l1 x9_1).f1)
                           ·rw [if_pos c68] at H
                            have c68b0 : (t301 == ((rd_T39 l1 x9_1).f1)) = true := beq_iff_eq.mpr c68
                            have c68b1 : (t301 != ((rd_T39 l1 x9_1).f1)) = false := bne_eq_false_iff_eq.mpr c68
                            clear c68
                            replace H := Option.bind_eq_some_iff.mp H
                            obtain ⟨t306, A690, H⟩ := H
                            replace H : (if t306 = true then (racewaylaw15_ChartServes.j6 k5 l1 a2 x9_1 x15_5 t300 t301 y296 (y296.length : Int) x130_5 false xE xL t275 t276) else (racewaylaw15_ChartServes.j6 k5 l1 a2 x9_1 x15_5 t300 t301 y296 (y296.length : Int) x130_5 (t301 != t300) xE xL t275 t276)) = some r := H
                            have A69 := Aside0.mk A690
                            clear A690
                            by_cases c70 : t306 = true
                            ·subst c70
                             have H1 : (racewaylaw15_ChartServes.j6 k5 l1 a2 x9_1 x15_5 t300 t301 y296 (y296.length : Int) x130_5 false xE xL t275 t276) = some r := by rw [if_pos rfl] at H; exact H
                             clear H
                             have H := H1
                             clear H1
                             as_aux_lemma =>
                              have H' := Aside0.mk H
                              clear H
                              have p302 : 0 ≤ (x9_1 : Int) := of_decide_eq_true (by first | (with_reducible assumption) | assumption)
                              have q302 : x9_1 < (l1.length : Int) := of_decide_eq_true (by first | (with_reducible assumption) | assumption)
                              obtain ⟨ad302, e302, hx302_0, hx302_1, hx302_2⟩ := at_T39 HR1.out x9_1 p302 q302
                              obtain rfl : ad273 = ad302 := (by injection e302)
                              replace hx302_0 := pw_cell_below HB.out hx302_0
                              replace hx302_1 := pw_cell_below HB.out hx302_1
                              replace hx302_2 := pw_cell_below HB.out hx302_2
                              replace p302 := eq_true p302
                              replace q302 := eq_true q302
                              go_wp2_with (first | ((with_reducible refine gate_callee (f := 18) rfl ?_); refine goesL_ (some 146) rfl rfl Try.func18 (by kernel_rfl) rfl #[.agg #[.int .i64 ((rd_T39 l1 x9_1).f0.f0), .int .i64 ((rd_T39 l1 x9_1).f0.f1)], .int .i64 (rd y296 x130_5)] rfl (by (try simp only [List.map_toArray, List.map_cons, List.map_nil]); first | done | rfl | (simp only [List.length_drop, List.length_take]; rfl)) ?_; (with_reducible refine (place_In.calls ((rd_T39 l1 x9_1).f0.f0) ((rd_T39 l1 x9_1).f0.f1) (rd y296 x130_5) true _ A66.out).mono ?_); rintro e w71 ⟨rfl, hb⟩; refine ⟨_, rfl, ?_⟩; have n0_ := ak (Kd.R_below (by (with_reducible repeat (first | apply ra | apply rn | apply rw1)); exact HO_128.out) hb); have n1_ := ak (Kd.R_below (by (with_reducible repeat (first | apply ra | apply rn | apply rw1)); exact HoL.out) hb); have n2_ := ak (Kd.R_below (by (with_reducible repeat (first | apply ra | apply rn | apply rw1)); exact HoM.out) hb); have n3_ := ak (blk_below (g := gb272) (o := .cells #[.int .i64 xE, .slice Ao17 xL.length co17] 24 (0, 0)) (by (with_reducible repeat (first | refine kn ?_ _ | refine kd ?_ | refine ka ?_ _)); exact BK272.out) hb); have n4_ := ak (blk_below (g := gb280) (o := .cells #[.int .i64 t275, .slice Ao23 t276.length co23] 24 (0, 0)) (by (with_reducible repeat (first | refine kn ?_ _ | refine kd ?_ | refine ka ?_ _)); exact BK280.out) hb); have n5_ := ak (below_step (by repeat (first | (with_reducible first | exact HB.out | apply ba | apply bd | apply b1 | refine bs ?_ GE272.out | refine bs ?_ GE280.out) | exact HB.out)) hb); clear HO_128; clear HoL; clear HoM; clear BK272; clear BK280; clear HB; have HO_128 := n0_; have HoL := n1_; have HoM := n2_; have BK272 := n3_; have BK280 := n4_; have HB := n5_; clear n0_ n1_ n2_ n3_ n4_ n5_; (try clear hb); (try clear hb2); (try clear hk); (try clear hi); have p304 : 0 ≤ (x9_1 : Int) := of_decide_eq_true (by first | (with_reducible assumption) | assumption); have q304 : x9_1 < (l1.length : Int) := of_decide_eq_true (by first | (with_reducible assumption) | assumption); obtain ⟨ad304, e304, hx304_0, hx304_1, hx304_2⟩ := at_T39 HR1.out x9_1 p304 q304; obtain rfl : ad273 = ad304 := (by injection e304); replace hx304_0 := pw_cell_below HB.out hx304_0; replace hx304_1 := pw_cell_below HB.out hx304_1; replace hx304_2 := pw_cell_below HB.out hx304_2; replace p304 := eq_true p304; replace q304 := eq_true q304; have p305 : 0 ≤ (x9_1 : Int) := of_decide_eq_true (by first | (with_reducible assumption) | assumption); have q305 : x9_1 < (l1.length : Int) := of_decide_eq_true (by first | (with_reducible assumption) | assumption); obtain ⟨ad305, e305, hx305_0, hx305_1, hx305_2⟩ := at_T39 HR1.out x9_1 p305 q305; obtain rfl : ad273 = ad305 := (by injection e305); replace hx305_0 := pw_cell_below HB.out hx305_0; replace hx305_1 := pw_cell_below HB.out hx305_1; replace hx305_2 := pw_cell_below HB.out hx305_2; replace p305 := eq_true p305; replace q305 := eq_true q305) | (go_at_call 18; (with_reducible refine (place_In.calls ((rd_T39 l1 x9_1).f0.f0) ((rd_T39 l1 x9_1).f0.f1) (rd y296 x130_5) true _ A69.out).mono ?_); rintro e w72 ⟨rfl, hb⟩; have n0_ := ak (Kd.R_below (by (with_reducible repeat (first | apply ra | apply rn | apply rw1)); exact HO_128.out) hb); have n1_ := ak (Kd.R_below (by (with_reducible repeat (first | apply ra | apply rn | apply rw1)); exact HoL.out) hb); have n2_ := ak (Kd.R_below (by (with_reducible repeat (first | apply ra | apply rn | apply rw1)); exact HoM.out) hb); have n3_ := ak (blk_below (g := gb272) (o := .cells #[.int .i64 xE, .slice Ao17 xL.length co17] 24 (0, 0)) (by (with_reducible repeat (first | refine kn ?_ _ | refine kd ?_ | refine ka ?_ _)); exact BK272.out) hb); have n4_ := ak (blk_below (g := gb280) (o := .cells #[.int .i64 t275, .slice Ao23 t276.length co23] 24 (0, 0)) (by (with_reducible repeat (first | refine kn ?_ _ | refine kd ?_ | refine ka ?_ _)); exact BK280.out) hb); have n5_ := ak (below_step (by repeat (first | (with_reducible first | exact HB.out | apply ba | apply bd | apply b1 | refine bs ?_ GE272.out | refine bs ?_ GE280.out) | exact HB.out)) hb); clear HO_128; clear HoL; clear HoM; clear BK272; clear BK280; clear HB; have HO_128 := n0_; have HoL := n1_; have HoM := n2_; have BK272 := n3_; have BK280 := n4_; have HB := n5_; clear n0_ n1_ n2_ n3_ n4_ n5_; (try clear hb); (try clear hb2); (try clear hk); (try clear hi)))
                              go_meet
                              case rel => exact ⟨_, (false), (by first | rfl | (simp; done) | (simp [*]; done)), H', ⟨by have := HK1.out; have := HJ9.out; have := HK3.out; have := HJ35.out; have := HK5.out; first | omega | exact Nat.le_refl _⟩, ⟨by (with_reducible repeat (first | apply ra | apply rn | apply rw1)); exact HO_128.out⟩, ⟨by (with_reducible repeat (first | apply ra | apply rn | apply rw1)); exact HoL.out⟩, ⟨by (with_reducible repeat (first | apply ra | apply rn | apply rw1)); exact HoM.out⟩, ⟨by (with_reducible repeat (first | refine kn ?_ _ | refine kd ?_ | refine ka ?_ _)); exact BK272.out⟩, ⟨by (with_reducible repeat (first | refine kn ?_ _ | refine kd ?_ | refine ka ?_ _)); exact BK280.out⟩, ⟨by repeat (first | (with_reducible first | exact HB.out | apply ba | apply bd | apply b1 | refine bs ?_ GE272.out | refine bs ?_ GE280.out) | exact HB.out)⟩⟩
                            ·replace c70 := Bool.eq_false_iff.mpr c70
                             subst c70
                             have H1 : (racewaylaw15_ChartServes.j6 k5 l1 a2 x9_1 x15_5 t300 t301 y296 (y296.length : Int) x130_5 (t301 != t300) xE xL t275 t276) = some r := by rw [if_neg (show ¬ (false = true) by decide)] at H; exact H
                             clear H
                             have H := H1
                             clear H1
                             as_aux_lemma =>
                              have H' := Aside0.mk H
                              clear H
                              have p302 : 0 ≤ (x9_1 : Int) := of_decide_eq_true (by first | (with_reducible assumption) | assumption)
                              have q302 : x9_1 < (l1.length : Int) := of_decide_eq_true (by first | (with_reducible assumption) | assumption)
                              obtain ⟨ad302, e302, hx302_0, hx302_1, hx302_2⟩ := at_T39 HR1.out x9_1 p302 q302
                              obtain rfl : ad273 = ad302 := (by injection e302)
                              replace hx302_0 := pw_cell_below HB.out hx302_0
                              replace hx302_1 := pw_cell_below HB.out hx302_1
                              replace hx302_2 := pw_cell_below HB.out hx302_2
                              replace p302 := eq_true p302
                              replace q302 := eq_true q302
                              go_wp2_with (first | ((with_reducible refine gate_callee (f := 18) rfl ?_); refine goesL_ (some 146) rfl rfl Try.func18 (by kernel_rfl) rfl #[.agg #[.int .i64 ((rd_T39 l1 x9_1).f0.f0), .int .i64 ((rd_T39 l1 x9_1).f0.f1)], .int .i64 (rd y296 x130_5)] rfl (by (try simp only [List.map_toArray, List.map_cons, List.map_nil]); first | done | rfl | (simp only [List.length_drop, List.length_take]; rfl)) ?_; (with_reducible refine (place_In.calls ((rd_T39 l1 x9_1).f0.f0) ((rd_T39 l1 x9_1).f0.f1) (rd y296 x130_5) true _ A66.out).mono ?_); rintro e w73 ⟨rfl, hb⟩; refine ⟨_, rfl, ?_⟩; have n0_ := ak (Kd.R_below (by (with_reducible repeat (first | apply ra | apply rn | apply rw1)); exact HO_128.out) hb); have n1_ := ak (Kd.R_below (by (with_reducible repeat (first | apply ra | apply rn | apply rw1)); exact HoL.out) hb); have n2_ := ak (Kd.R_below (by (with_reducible repeat (first | apply ra | apply rn | apply rw1)); exact HoM.out) hb); have n3_ := ak (blk_below (g := gb272) (o := .cells #[.int .i64 xE, .slice Ao17 xL.length co17] 24 (0, 0)) (by (with_reducible repeat (first | refine kn ?_ _ | refine kd ?_ | refine ka ?_ _)); exact BK272.out) hb); have n4_ := ak (blk_below (g := gb280) (o := .cells #[.int .i64 t275, .slice Ao23 t276.length co23] 24 (0, 0)) (by (with_reducible repeat (first | refine kn ?_ _ | refine kd ?_ | refine ka ?_ _)); exact BK280.out) hb); have n5_ := ak (below_step (by repeat (first | (with_reducible first | exact HB.out | apply ba | apply bd | apply b1 | refine bs ?_ GE272.out | refine bs ?_ GE280.out) | exact HB.out)) hb); clear HO_128; clear HoL; clear HoM; clear BK272; clear BK280; clear HB; have HO_128 := n0_; have HoL := n1_; have HoM := n2_; have BK272 := n3_; have BK280 := n4_; have HB := n5_; clear n0_ n1_ n2_ n3_ n4_ n5_; (try clear hb); (try clear hb2); (try clear hk); (try clear hi); have p304 : 0 ≤ (x9_1 : Int) := of_decide_eq_true (by first | (with_reducible assumption) | assumption); have q304 : x9_1 < (l1.length : Int) := of_decide_eq_true (by first | (with_reducible assumption) | assumption); obtain ⟨ad304, e304, hx304_0, hx304_1, hx304_2⟩ := at_T39 HR1.out x9_1 p304 q304; obtain rfl : ad273 = ad304 := (by injection e304); replace hx304_0 := pw_cell_below HB.out hx304_0; replace hx304_1 := pw_cell_below HB.out hx304_1; replace hx304_2 := pw_cell_below HB.out hx304_2; replace p304 := eq_true p304; replace q304 := eq_true q304; have p305 : 0 ≤ (x9_1 : Int) := of_decide_eq_true (by first | (with_reducible assumption) | assumption); have q305 : x9_1 < (l1.length : Int) := of_decide_eq_true (by first | (with_reducible assumption) | assumption); obtain ⟨ad305, e305, hx305_0, hx305_1, hx305_2⟩ := at_T39 HR1.out x9_1 p305 q305; obtain rfl : ad273 = ad305 := (by injection e305); replace hx305_0 := pw_cell_below HB.out hx305_0; replace hx305_1 := pw_cell_below HB.out hx305_1; replace hx305_2 := pw_cell_below HB.out hx305_2; replace p305 := eq_true p305; replace q305 := eq_true q305) | (go_at_call 18; (with_reducible refine (place_In.calls ((rd_T39 l1 x9_1).f0.f0) ((rd_T39 l1 x9_1).f0.f1) (rd y296 x130_5) false _ A69.out).mono ?_); rintro e w74 ⟨rfl, hb⟩; have n0_ := ak (Kd.R_below (by (with_reducible repeat (first | apply ra | apply rn | apply rw1)); exact HO_128.out) hb); have n1_ := ak (Kd.R_below (by (with_reducible repeat (first | apply ra | apply rn | apply rw1)); exact HoL.out) hb); have n2_ := ak (Kd.R_below (by (with_reducible repeat (first | apply ra | apply rn | apply rw1)); exact HoM.out) hb); have n3_ := ak (blk_below (g := gb272) (o := .cells #[.int .i64 xE, .slice Ao17 xL.length co17] 24 (0, 0)) (by (with_reducible repeat (first | refine kn ?_ _ | refine kd ?_ | refine ka ?_ _)); exact BK272.out) hb); have n4_ := ak (blk_below (g := gb280) (o := .cells #[.int .i64 t275, .slice Ao23 t276.length co23] 24 (0, 0)) (by (with_reducible repeat (first | refine kn ?_ _ | refine kd ?_ | refine ka ?_ _)); exact BK280.out) hb); have n5_ := ak (below_step (by repeat (first | (with_reducible first | exact HB.out | apply ba | apply bd | apply b1 | refine bs ?_ GE272.out | refine bs ?_ GE280.out) | exact HB.out)) hb); clear HO_128; clear HoL; clear HoM; clear BK272; clear BK280; clear HB; have HO_128 := n0_; have HoL := n1_; have HoM := n2_; have BK272 := n3_; have BK280 := n4_; have HB := n5_; clear n0_ n1_ n2_ n3_ n4_ n5_; (try clear hb); (try clear hb2); (try clear hk); (try clear hi)))
                              go_meet
                              case rel => exact ⟨_, ((t301 != t300)), (by first | rfl | (simp; done) | (simp [*]; done)), H', ⟨by have := HK1.out; have := HJ9.out; have := HK3.out; have := HJ35.out; have := HK5.out; first | omega | exact Nat.le_refl _⟩, ⟨by (with_reducible repeat (first | apply ra | apply rn | apply rw1)); exact HO_128.out⟩, ⟨by (with_reducible repeat (first | apply ra | apply rn | apply rw1)); exact HoL.out⟩, ⟨by (with_reducible repeat (first | apply ra | apply rn | apply rw1)); exact HoM.out⟩, ⟨by (with_reducible repeat (first | refine kn ?_ _ | refine kd ?_ | refine ka ?_ _)); exact BK272.out⟩, ⟨by (with_reducible repeat (first | refine kn ?_ _ | refine kd ?_ | refine ka ?_ _)); exact BK280.out⟩, ⟨by repeat (first | (with_reducible first | exact HB.out | apply ba | apply bd | apply b1 | refine bs ?_ GE272.out | refine bs ?_ GE280.out) | exact HB.out)⟩⟩
                           ·rw [if_neg c68] at H
                            have c68b0 : (t301 == ((rd_T39 l1 x9_1).f1)) = false := beq_eq_false_iff_ne.mpr c68
                            have c68b1 : (t301 != ((rd_T39 l1 x9_1).f1)) = true := bne_iff_ne.mpr c68
                            as_aux_lemma =>
                             have H' := Aside0.mk H
                             clear H
                             have p302 : 0 ≤ (x9_1 : Int) := of_decide_eq_true (by first | (with_reducible assumption) | assumption)
                             have q302 : x9_1 < (l1.length : Int) := of_decide_eq_true (by first | (with_reducible assumption) | assumption)
                             obtain ⟨ad302, e302, hx302_0, hx302_1, hx302_2⟩ := at_T39 HR1.out x9_1 p302 q302
                             obtain rfl : ad273 = ad302 := (by injection e302)
                             replace hx302_0 := pw_cell_below HB.out hx302_0
                             replace hx302_1 := pw_cell_below HB.out hx302_1
                             replace hx302_2 := pw_cell_below HB.out hx302_2
                             replace p302 := eq_true p302
                             replace q302 := eq_true q302
                             go_wp2_with (first | ((with_reducible refine gate_callee (f := 18) rfl ?_); refine goesL_ (some 146) rfl rfl Try.func18 (by kernel_rfl) rfl #[.agg #[.int .i64 ((rd_T39 l1 x9_1).f0.f0), .int .i64 ((rd_T39 l1 x9_1).f0.f1)], .int .i64 (rd y296 x130_5)] rfl (by (try simp only [List.map_toArray, List.map_cons, List.map_nil]); first | done | rfl | (simp only [List.length_drop, List.length_take]; rfl)) ?_; (with_reducible refine (place_In.calls ((rd_T39 l1 x9_1).f0.f0) ((rd_T39 l1 x9_1).f0.f1) (rd y296 x130_5) true _ A66.out).mono ?_); rintro e w75 ⟨rfl, hb⟩; refine ⟨_, rfl, ?_⟩; have n0_ := ak (Kd.R_below (by (with_reducible repeat (first | apply ra | apply rn | apply rw1)); exact HO_128.out) hb); have n1_ := ak (Kd.R_below (by (with_reducible repeat (first | apply ra | apply rn | apply rw1)); exact HoL.out) hb); have n2_ := ak (Kd.R_below (by (with_reducible repeat (first | apply ra | apply rn | apply rw1)); exact HoM.out) hb); have n3_ := ak (blk_below (g := gb272) (o := .cells #[.int .i64 xE, .slice Ao17 xL.length co17] 24 (0, 0)) (by (with_reducible repeat (first | refine kn ?_ _ | refine kd ?_ | refine ka ?_ _)); exact BK272.out) hb); have n4_ := ak (blk_below (g := gb280) (o := .cells #[.int .i64 t275, .slice Ao23 t276.length co23] 24 (0, 0)) (by (with_reducible repeat (first | refine kn ?_ _ | refine kd ?_ | refine ka ?_ _)); exact BK280.out) hb); have n5_ := ak (below_step (by repeat (first | (with_reducible first | exact HB.out | apply ba | apply bd | apply b1 | refine bs ?_ GE272.out | refine bs ?_ GE280.out) | exact HB.out)) hb); clear HO_128; clear HoL; clear HoM; clear BK272; clear BK280; clear HB; have HO_128 := n0_; have HoL := n1_; have HoM := n2_; have BK272 := n3_; have BK280 := n4_; have HB := n5_; clear n0_ n1_ n2_ n3_ n4_ n5_; (try clear hb); (try clear hb2); (try clear hk); (try clear hi); have p304 : 0 ≤ (x9_1 : Int) := of_decide_eq_true (by first | (with_reducible assumption) | assumption); have q304 : x9_1 < (l1.length : Int) := of_decide_eq_true (by first | (with_reducible assumption) | assumption); obtain ⟨ad304, e304, hx304_0, hx304_1, hx304_2⟩ := at_T39 HR1.out x9_1 p304 q304; obtain rfl : ad273 = ad304 := (by injection e304); replace hx304_0 := pw_cell_below HB.out hx304_0; replace hx304_1 := pw_cell_below HB.out hx304_1; replace hx304_2 := pw_cell_below HB.out hx304_2; replace p304 := eq_true p304; replace q304 := eq_true q304))
                             go_meet
                             case rel => exact ⟨_, (true), (by first | rfl | (simp; done) | (simp [*]; done)), H', ⟨by have := HK1.out; have := HJ9.out; have := HK3.out; have := HJ35.out; have := HK5.out; first | omega | exact Nat.le_refl _⟩, ⟨by (with_reducible repeat (first | apply ra | apply rn | apply rw1)); exact HO_128.out⟩, ⟨by (with_reducible repeat (first | apply ra | apply rn | apply rw1)); exact HoL.out⟩, ⟨by (with_reducible repeat (first | apply ra | apply rn | apply rw1)); exact HoM.out⟩, ⟨by (with_reducible repeat (first | refine kn ?_ _ | refine kd ?_ | refine ka ?_ _)); exact BK272.out⟩, ⟨by (with_reducible repeat (first | refine kn ?_ _ | refine kd ?_ | refine ka ?_ _)); exact BK280.out⟩, ⟨by repeat (first | (with_reducible first | exact HB.out | apply ba | apply bd | apply b1 | refine bs ?_ GE272.out | refine bs ?_ GE280.out) | exact HB.out)⟩⟩
                          ·replace c67 := Bool.eq_false_iff.mpr c67
                           subst c67
                           have H1 : ((place_In.f ((rd_T39 l1 x9_1).f0.f0) ((rd_T39 l1 x9_1).f0.f1) (rd y296 x130_5)).bind fun t308 => (if t308 = true then (racewaylaw15_ChartServes.j6 k5 l1 a2 x9_1 x15_5 t300 t301 y296 (y296.length : Int) x130_5 false xE xL t275 t276) else (racewaylaw15_ChartServes.j6 k5 l1 a2 x9_1 x15_5 t300 t301 y296 (y296.length : Int) x130_5 (t301 != t300) xE xL t275 t276))) = some r := by rw [if_neg (show ¬ (false = true) by decide)] at H; exact H
                           clear H
                           have H := H1
                           clear H1
                           replace H := Option.bind_eq_some_iff.mp H
                           obtain ⟨t308, A760, H⟩ := H
                           replace H : (if t308 = true then (racewaylaw15_ChartServes.j6 k5 l1 a2 x9_1 x15_5 t300 t301 y296 (y296.length : Int) x130_5 false xE xL t275 t276) else (racewaylaw15_ChartServes.j6 k5 l1 a2 x9_1 x15_5 t300 t301 y296 (y296.length : Int) x130_5 (t301 != t300) xE xL t275 t276)) = some r := H
                           have A76 := Aside0.mk A760
                           clear A760
                           by_cases c77 : t308 = true
                           ·subst c77
                            have H1 : (racewaylaw15_ChartServes.j6 k5 l1 a2 x9_1 x15_5 t300 t301 y296 (y296.length : Int) x130_5 false xE xL t275 t276) = some r := by rw [if_pos rfl] at H; exact H
                            clear H
                            have H := H1
                            clear H1
                            as_aux_lemma =>
                             have H' := Aside0.mk H
                             clear H
                             have p302 : 0 ≤ (x9_1 : Int) := of_decide_eq_true (by first | (with_reducible assumption) | assumption)
                             have q302 : x9_1 < (l1.length : Int) := of_decide_eq_true (by first | (with_reducible assumption) | assumption)
                             obtain ⟨ad302, e302, hx302_0, hx302_1, hx302_2⟩ := at_T39 HR1.out x9_1 p302 q302
                             obtain rfl : ad273 = ad302 := (by injection e302)
                             replace hx302_0 := pw_cell_below HB.out hx302_0
                             replace hx302_1 := pw_cell_below HB.out hx302_1
                             replace hx302_2 := pw_cell_below HB.out hx302_2
                             replace p302 := eq_true p302
                             replace q302 := eq_true q302
                             go_wp2_with (first | ((with_reducible refine gate_callee (f := 18) rfl ?_); refine goesL_ (some 146) rfl rfl Try.func18 (by kernel_rfl) rfl #[.agg #[.int .i64 ((rd_T39 l1 x9_1).f0.f0), .int .i64 ((rd_T39 l1 x9_1).f0.f1)], .int .i64 (rd y296 x130_5)] rfl (by (try simp only [List.map_toArray, List.map_cons, List.map_nil]); first | done | rfl | (simp only [List.length_drop, List.length_take]; rfl)) ?_; (with_reducible refine (place_In.calls ((rd_T39 l1 x9_1).f0.f0) ((rd_T39 l1 x9_1).f0.f1) (rd y296 x130_5) false _ A66.out).mono ?_); rintro e w78 ⟨rfl, hb⟩; refine ⟨_, rfl, ?_⟩; have n0_ := ak (Kd.R_below (by (with_reducible repeat (first | apply ra | apply rn | apply rw1)); exact HO_128.out) hb); have n1_ := ak (Kd.R_below (by (with_reducible repeat (first | apply ra | apply rn | apply rw1)); exact HoL.out) hb); have n2_ := ak (Kd.R_below (by (with_reducible repeat (first | apply ra | apply rn | apply rw1)); exact HoM.out) hb); have n3_ := ak (blk_below (g := gb272) (o := .cells #[.int .i64 xE, .slice Ao17 xL.length co17] 24 (0, 0)) (by (with_reducible repeat (first | refine kn ?_ _ | refine kd ?_ | refine ka ?_ _)); exact BK272.out) hb); have n4_ := ak (blk_below (g := gb280) (o := .cells #[.int .i64 t275, .slice Ao23 t276.length co23] 24 (0, 0)) (by (with_reducible repeat (first | refine kn ?_ _ | refine kd ?_ | refine ka ?_ _)); exact BK280.out) hb); have n5_ := ak (below_step (by repeat (first | (with_reducible first | exact HB.out | apply ba | apply bd | apply b1 | refine bs ?_ GE272.out | refine bs ?_ GE280.out) | exact HB.out)) hb); clear HO_128; clear HoL; clear HoM; clear BK272; clear BK280; clear HB; have HO_128 := n0_; have HoL := n1_; have HoM := n2_; have BK272 := n3_; have BK280 := n4_; have HB := n5_; clear n0_ n1_ n2_ n3_ n4_ n5_; (try clear hb); (try clear hb2); (try clear hk); (try clear hi); have p307 : 0 ≤ (x9_1 : Int) := of_decide_eq_true (by first | (with_reducible assumption) | assumption); have q307 : x9_1 < (l1.length : Int) := of_decide_eq_true (by first | (with_reducible assumption) | assumption); obtain ⟨ad307, e307, hx307_0, hx307_1, hx307_2⟩ := at_T39 HR1.out x9_1 p307 q307; obtain rfl : ad273 = ad307 := (by injection e307); replace hx307_0 := pw_cell_below HB.out hx307_0; replace hx307_1 := pw_cell_below HB.out hx307_1; replace hx307_2 := pw_cell_below HB.out hx307_2; replace p307 := eq_true p307; replace q307 := eq_true q307) | (go_at_call 18; (with_reducible refine (place_In.calls ((rd_T39 l1 x9_1).f0.f0) ((rd_T39 l1 x9_1).f0.f1) (rd y296 x130_5) true _ A76.out).mono ?_); rintro e w79 ⟨rfl, hb⟩; have n0_ := ak (Kd.R_below (by (with_reducible repeat (first | apply ra | apply rn | apply rw1)); exact HO_128.out) hb); have n1_ := ak (Kd.R_below (by (with_reducible repeat (first | apply ra | apply rn | apply rw1)); exact HoL.out) hb); have n2_ := ak (Kd.R_below (by (with_reducible repeat (first | apply ra | apply rn | apply rw1)); exact HoM.out) hb); have n3_ := ak (blk_below (g := gb272) (o := .cells #[.int .i64 xE, .slice Ao17 xL.length co17] 24 (0, 0)) (by (with_reducible repeat (first | refine kn ?_ _ | refine kd ?_ | refine ka ?_ _)); exact BK272.out) hb); have n4_ := ak (blk_below (g := gb280) (o := .cells #[.int .i64 t275, .slice Ao23 t276.length co23] 24 (0, 0)) (by (with_reducible repeat (first | refine kn ?_ _ | refine kd ?_ | refine ka ?_ _)); exact BK280.out) hb); have n5_ := ak (below_step (by repeat (first | (with_reducible first | exact HB.out | apply ba | apply bd | apply b1 | refine bs ?_ GE272.out | refine bs ?_ GE280.out) | exact HB.out)) hb); clear HO_128; clear HoL; clear HoM; clear BK272; clear BK280; clear HB; have HO_128 := n0_; have HoL := n1_; have HoM := n2_; have BK272 := n3_; have BK280 := n4_; have HB := n5_; clear n0_ n1_ n2_ n3_ n4_ n5_; (try clear hb); (try clear hb2); (try clear hk); (try clear hi)))
                             go_meet
                             case rel => exact ⟨_, (false), (by first | rfl | (simp; done) | (simp [*]; done)), H', ⟨by have := HK1.out; have := HJ9.out; have := HK3.out; have := HJ35.out; have := HK5.out; first | omega | exact Nat.le_refl _⟩, ⟨by (with_reducible repeat (first | apply ra | apply rn | apply rw1)); exact HO_128.out⟩, ⟨by (with_reducible repeat (first | apply ra | apply rn | apply rw1)); exact HoL.out⟩, ⟨by (with_reducible repeat (first | apply ra | apply rn | apply rw1)); exact HoM.out⟩, ⟨by (with_reducible repeat (first | refine kn ?_ _ | refine kd ?_ | refine ka ?_ _)); exact BK272.out⟩, ⟨by (with_reducible repeat (first | refine kn ?_ _ | refine kd ?_ | refine ka ?_ _)); exact BK280.out⟩, ⟨by repeat (first | (with_reducible first | exact HB.out | apply ba | apply bd | apply b1 | refine bs ?_ GE272.out | refine bs ?_ GE280.out) | exact HB.out)⟩⟩
                           ·replace c77 := Bool.eq_false_iff.mpr c77
                            subst c77
                            have H1 : (racewaylaw15_ChartServes.j6 k5 l1 a2 x9_1 x15_5 t300 t301 y296 (y296.length : Int) x130_5 (t301 != t300) xE xL t275 t276) = some r := by rw [if_neg (show ¬ (false = true) by decide)] at H; exact H
                            clear H
                            have H := H1
                            clear H1
                            as_aux_lemma =>
                             have H' := Aside0.mk H
                             clear H
                             have p302 : 0 ≤ (x9_1 : Int) := of_decide_eq_true (by first | (with_reducible assumption) | assumption)
                             have q302 : x9_1 < (l1.length : Int) := of_decide_eq_true (by first | (with_reducible assumption) | assumption)
                             obtain ⟨ad302, e302, hx302_0, hx302_1, hx302_2⟩ := at_T39 HR1.out x9_1 p302 q302
                             obtain rfl : ad273 = ad302 := (by injection e302)
                             replace hx302_0 := pw_cell_below HB.out hx302_0
                             replace hx302_1 := pw_cell_below HB.out hx302_1
                             replace hx302_2 := pw_cell_below HB.out hx302_2
                             replace p302 := eq_true p302
                             replace q302 := eq_true q302
                             go_wp2_with (first | ((with_reducible refine gate_callee (f := 18) rfl ?_); refine goesL_ (some 146) rfl rfl Try.func18 (by kernel_rfl) rfl #[.agg #[.int .i64 ((rd_T39 l1 x9_1).f0.f0), .int .i64 ((rd_T39 l1 x9_1).f0.f1)], .int .i64 (rd y296 x130_5)] rfl (by (try simp only [List.map_toArray, List.map_cons, List.map_nil]); first | done | rfl | (simp only [List.length_drop, List.length_take]; rfl)) ?_; (with_reducible refine (place_In.calls ((rd_T39 l1 x9_1).f0.f0) ((rd_T39 l1 x9_1).f0.f1) (rd y296 x130_5) false _ A66.out).mono ?_); rintro e w80 ⟨rfl, hb⟩; refine ⟨_, rfl, ?_⟩; have n0_ := ak (Kd.R_below (by (with_reducible repeat (first | apply ra | apply rn | apply rw1)); exact HO_128.out) hb); have n1_ := ak (Kd.R_below (by (with_reducible repeat (first | apply ra | apply rn | apply rw1)); exact HoL.out) hb); have n2_ := ak (Kd.R_below (by (with_reducible repeat (first | apply ra | apply rn | apply rw1)); exact HoM.out) hb); have n3_ := ak (blk_below (g := gb272) (o := .cells #[.int .i64 xE, .slice Ao17 xL.length co17] 24 (0, 0)) (by (with_reducible repeat (first | refine kn ?_ _ | refine kd ?_ | refine ka ?_ _)); exact BK272.out) hb); have n4_ := ak (blk_below (g := gb280) (o := .cells #[.int .i64 t275, .slice Ao23 t276.length co23] 24 (0, 0)) (by (with_reducible repeat (first | refine kn ?_ _ | refine kd ?_ | refine ka ?_ _)); exact BK280.out) hb); have n5_ := ak (below_step (by repeat (first | (with_reducible first | exact HB.out | apply ba | apply bd | apply b1 | refine bs ?_ GE272.out | refine bs ?_ GE280.out) | exact HB.out)) hb); clear HO_128; clear HoL; clear HoM; clear BK272; clear BK280; clear HB; have HO_128 := n0_; have HoL := n1_; have HoM := n2_; have BK272 := n3_; have BK280 := n4_; have HB := n5_; clear n0_ n1_ n2_ n3_ n4_ n5_; (try clear hb); (try clear hb2); (try clear hk); (try clear hi); have p307 : 0 ≤ (x9_1 : Int) := of_decide_eq_true (by first | (with_reducible assumption) | assumption); have q307 : x9_1 < (l1.length : Int) := of_decide_eq_true (by first | (with_reducible assumption) | assumption); obtain ⟨ad307, e307, hx307_0, hx307_1, hx307_2⟩ := at_T39 HR1.out x9_1 p307 q307; obtain rfl : ad273 = ad307 := (by injection e307); replace hx307_0 := pw_cell_below HB.out hx307_0; replace hx307_1 := pw_cell_below HB.out hx307_1; replace hx307_2 := pw_cell_below HB.out hx307_2; replace p307 := eq_true p307; replace q307 := eq_true q307) | (go_at_call 18; (with_reducible refine (place_In.calls ((rd_T39 l1 x9_1).f0.f0) ((rd_T39 l1 x9_1).f0.f1) (rd y296 x130_5) false _ A76.out).mono ?_); rintro e w81 ⟨rfl, hb⟩; have n0_ := ak (Kd.R_below (by (with_reducible repeat (first | apply ra | apply rn | apply rw1)); exact HO_128.out) hb); have n1_ := ak (Kd.R_below (by (with_reducible repeat (first | apply ra | apply rn | apply rw1)); exact HoL.out) hb); have n2_ := ak (Kd.R_below (by (with_reducible repeat (first | apply ra | apply rn | apply rw1)); exact HoM.out) hb); have n3_ := ak (blk_below (g := gb272) (o := .cells #[.int .i64 xE, .slice Ao17 xL.length co17] 24 (0, 0)) (by (with_reducible repeat (first | refine kn ?_ _ | refine kd ?_ | refine ka ?_ _)); exact BK272.out) hb); have n4_ := ak (blk_below (g := gb280) (o := .cells #[.int .i64 t275, .slice Ao23 t276.length co23] 24 (0, 0)) (by (with_reducible repeat (first | refine kn ?_ _ | refine kd ?_ | refine ka ?_ _)); exact BK280.out) hb); have n5_ := ak (below_step (by repeat (first | (with_reducible first | exact HB.out | apply ba | apply bd | apply b1 | refine bs ?_ GE272.out | refine bs ?_ GE280.out) | exact HB.out)) hb); clear HO_128; clear HoL; clear HoM; clear BK272; clear BK280; clear HB; have HO_128 := n0_; have HoL := n1_; have HoM := n2_; have BK272 := n3_; have BK280 := n4_; have HB := n5_; clear n0_ n1_ n2_ n3_ n4_ n5_; (try clear hb); (try clear hb2); (try clear hk); (try clear hi)))
                             go_meet
                             case rel => exact ⟨_, ((t301 != t300)), (by first | rfl | (simp; done) | (simp [*]; done)), H', ⟨by have := HK1.out; have := HJ9.out; have := HK3.out; have := HJ35.out; have := HK5.out; first | omega | exact Nat.le_refl _⟩, ⟨by (with_reducible repeat (first | apply ra | apply rn | apply rw1)); exact HO_128.out⟩, ⟨by (with_reducible repeat (first | apply ra | apply rn | apply rw1)); exact HoL.out⟩, ⟨by (with_reducible repeat (first | apply ra | apply rn | apply rw1)); exact HoM.out⟩, ⟨by (with_reducible repeat (first | refine kn ?_ _ | refine kd ?_ | refine ka ?_ _)); exact BK272.out⟩, ⟨by (with_reducible repeat (first | refine kn ?_ _ | refine kd ?_ | refine ka ?_ _)); exact BK280.out⟩, ⟨by repeat (first | (with_reducible first | exact HB.out | apply ba | apply bd | apply b1 | refine bs ?_ GE272.out | refine bs ?_ GE280.out) | exact HB.out)⟩⟩
                         ·rw [if_neg c65] at H
                          exact absurd H (by simp)
                        ·rw [if_neg c64] at H
                         exact absurd H (by simp)
                       case rest =>
                        clear HC60
                        try clear c1
                        try clear c2
                        try clear p2
                        try clear q2
                        try clear hx2
                        try clear c3
                        try clear p3
                        try clear q3
                        try clear hx3
                        try clear c4
                        try clear c5
                        try clear c5b0
                        try clear c5b1
                        try clear c6
                        try clear p6
                        try clear c7
                        try clear c8
                        try clear c11
                        try clear c11b0
                        try clear c12
                        try clear c13
                        try clear c13b0
                        try clear c14
                        try clear c14b0
                        try clear c15
                        try clear c16
                        try clear c16b0
                        try clear c16b1
                        try clear c17
                        try clear c18
                        try clear c25
                        try clear c27
                        try clear c27b0
                        try clear p27
                        try clear q27
                        try clear hx27
                        try clear c28
                        try clear c28b0
                        try clear p28
                        try clear q28
                        try clear hx28
                        try clear c29
                        try clear c29b0
                        try clear p29
                        try clear q29
                        try clear hx29
                        try clear c30
                        try clear p30
                        try clear q30
                        try clear hx30
                        try clear c32
                        try clear c33
                        try clear c38
                        try clear c40
                        try clear c45
                        try clear c48
                        try clear c49
                        try clear c49b0
                        try clear c50
                        try clear c50b0
                        try clear c55
                        try clear c55b0
                        try clear c56
                        try clear c56b0
                        try clear c57
                        try clear c57b0
                        try clear c64
                        try clear c64b0
                        try clear p64
                        try clear c65
                        try clear c65b0
                        try clear c67
                        try clear c68
                        try clear c68b0
                        try clear c68b1
                        try clear c70
                        try clear c77
                        try clear hcz26_0
                        try clear hcz26_1
                        try clear hcz34_0
                        try clear hcz34_1
                        try clear hcz34_2
                        try clear hcz41_0
                        try clear hcz41_1
                        try clear hcz46_0
                        try clear hcz46_1
                        try clear hcz8_0
                        try clear hcz8_1
                        try clear hfz26_0
                        try clear hfz26_1
                        try clear hfz34_0
                        try clear hfz34_1
                        try clear hfz34_2
                        try clear hfz41_0
                        try clear hfz41_1
                        try clear hfz46_0
                        try clear hfz46_1
                        try clear hfz8_0
                        try clear hfz8_1
                        try clear hx273_0
                        try clear hx273_1
                        try clear hx273_2
                        try clear hx274_0
                        try clear hx274_1
                        try clear hx274_2
                        try clear hx285_0
                        try clear hx285_1
                        try clear hx285_2
                        try clear hx292_0
                        try clear hx292_1
                        try clear hx292_2
                        try clear hx293_0
                        try clear hx293_1
                        try clear hx293_2
                        try clear hx294_0
                        try clear hx294_1
                        try clear hx294_2
                        try clear hx295_0
                        try clear hx295_1
                        try clear hx295_2
                        try clear hx299_0
                        try clear hx302_0
                        try clear hx302_1
                        try clear hx302_2
                        try clear hx304_0
                        try clear hx304_1
                        try clear hx304_2
                        try clear hx305_0
                        try clear hx305_1
                        try clear hx305_2
                        try clear hx307_0
                        try clear hx307_1
                        try clear hx307_2
                        try clear p2
                        try clear p27
                        try clear p273
                        try clear p274
                        try clear p28
                        try clear p285
                        try clear p29
                        try clear p292
                        try clear p293
                        try clear p294
                        try clear p295
                        try clear p299
                        try clear p302
                        try clear p304
                        try clear p305
                        try clear p307
                        try clear p6
                        try clear q2
                        try clear q27
                        try clear q273
                        try clear q274
                        try clear q28
                        try clear q285
                        try clear q29
                        try clear q292
                        try clear q293
                        try clear q294
                        try clear q295
                        try clear q299
                        try clear q302
                        try clear q304
                        try clear q305
                        try clear q307
                        obtain ⟨kq, x170_59, rfl, HA, HJ59, HO_128, HoL, HoM, BK272, BK280, HB⟩ := hcut
                        cases kq with
                        | zero => exact absurd HA.out (by simp [racewaylaw15_ChartServes.j6])
                        | succ kj59 =>
                         have H := HA.out
                         clear HA
                         simp only [racewaylaw15_ChartServes.j6] at H
                         by_cases c82 : x170_59 = true
                         ·subst c82
                          have H1 : (some false) = some r := by rw [if_pos rfl] at H; exact H
                          clear H
                          have H := H1
                          clear H1
                          exact absurd (Option.some.inj H) (by rw [hrt.out]; decide)
                         ·replace c82 := Bool.eq_false_iff.mpr c82
                          subst c82
                          have H1 : (if x15_5 = true then (racewaylaw15_ChartServes.l2 kj59 l1 a2 x9_1 true y296 (y296.length : Int) (wrap64 (x130_5 + 1)) xE xL t275 t276) else (racewaylaw15_ChartServes.l2 kj59 l1 a2 x9_1 (t301 != t300) y296 (y296.length : Int) (wrap64 (x130_5 + 1)) xE xL t275 t276)) = some r := by rw [if_neg (show ¬ (false = true) by decide)] at H; exact H
                          clear H
                          have H := H1
                          clear H1
                          by_cases c83 : x15_5 = true
                          ·subst c83
                           have H1 : (racewaylaw15_ChartServes.l2 kj59 l1 a2 x9_1 true y296 (y296.length : Int) (wrap64 (x130_5 + 1)) xE xL t275 t276) = some r := by rw [if_pos rfl] at H; exact H
                           clear H
                           have H := H1
                           clear H1
                           as_aux_lemma =>
                            have H' := Aside0.mk H
                            clear H
                            go_wp2
                            go_roundg kj59
                            case measure => have := HK1.out; have := HJ9.out; have := HK3.out; have := HJ35.out; have := HK5.out; have := HJ59.out; omega
                            case rel => exact ⟨(true), (wrap64 (x130_5 + 1)), (by first | rfl | (simp; done) | (simp [*]; done)), (by first | rfl | (simp; done) | (simp [*]; done)), H', ⟨by have := HK1.out; have := HJ9.out; have := HK3.out; have := HJ35.out; have := HK5.out; have := HJ59.out; omega⟩, ⟨by (with_reducible repeat (first | apply ra | apply rn | apply rw1)); exact HO_128.out⟩, ⟨by (with_reducible repeat (first | apply ra | apply rn | apply rw1)); exact HoL.out⟩, ⟨by (with_reducible repeat (first | apply ra | apply rn | apply rw1)); exact HoM.out⟩, ⟨by (with_reducible repeat (first | refine kn ?_ _ | refine kd ?_ | refine ka ?_ _)); exact BK272.out⟩, ⟨by (with_reducible repeat (first | refine kn ?_ _ | refine kd ?_ | refine ka ?_ _)); exact BK280.out⟩, ⟨by repeat (first | (with_reducible first | exact HB.out | apply ba | apply bd | apply b1 | refine bs ?_ GE272.out | refine bs ?_ GE280.out) | exact HB.out)⟩⟩
                          ·replace c83 := Bool.eq_false_iff.mpr c83
                           subst c83
                           have H1 : (racewaylaw15_ChartServes.l2 kj59 l1 a2 x9_1 (t301 != t300) y296 (y296.length : Int) (wrap64 (x130_5 + 1)) xE xL t275 t276) = some r := by rw [if_neg (show ¬ (false = true) by decide)] at H; exact H
                           clear H
                           have H := H1
                           clear H1
                           as_aux_lemma =>
                            have H' := Aside0.mk H
                            clear H
                            go_wp2
                            go_roundg kj59
                            case measure => have := HK1.out; have := HJ9.out; have := HK3.out; have := HJ35.out; have := HK5.out; have := HJ59.out; omega
                            case rel => exact ⟨((t301 != t300)), (wrap64 (x130_5 + 1)), (by first | rfl | (simp; done) | (simp [*]; done)), (by first | rfl | (simp; done) | (simp [*]; done)), H', ⟨by have := HK1.out; have := HJ9.out; have := HK3.out; have := HJ35.out; have := HK5.out; have := HJ59.out; omega⟩, ⟨by (with_reducible repeat (first | apply ra | apply rn | apply rw1)); exact HO_128.out⟩, ⟨by (with_reducible repeat (first | apply ra | apply rn | apply rw1)); exact HoL.out⟩, ⟨by (with_reducible repeat (first | apply ra | apply rn | apply rw1)); exact HoM.out⟩, ⟨by (with_reducible repeat (first | refine kn ?_ _ | refine kd ?_ | refine ka ?_ _)); exact BK272.out⟩, ⟨by (with_reducible repeat (first | refine kn ?_ _ | refine kd ?_ | refine ka ?_ _)); exact BK280.out⟩, ⟨by repeat (first | (with_reducible first | exact HB.out | apply ba | apply bd | apply b1 | refine bs ?_ GE272.out | refine bs ?_ GE280.out) | exact HB.out)⟩⟩
                      ·rw [if_neg c57] at H
                       exact absurd H (by simp)
                     ·rw [if_neg c56] at H
                      exact absurd H (by simp)
                    ·rw [if_neg c55] at H
                     have c55b0 : decide (x130_5 < (y296.length : Int)) = false := decide_eq_false c55
                     clear c55
                     have HC84 := Aside0.mk H
                     clear H
                     go_upto_region 28 with (fail)
                     go_cut [206] (fun v206 wc => ∃ (kq : Nat) (x206_83 : Bool), v206 = .bool x206_83 ∧ Aside0 (racewaylaw15_ChartServes.j7 kq l1 a2 x9_1 x206_83 t275 t276 = some r) ∧ Aside0 (kq ≤ k5) ∧ Aside0 (Kd.R k43 43 wc w.heap.size (fun k_ => some k_ ≠ ((.slice Ao23 t276.length co23) : Value).ownBlock) (.slice Ao17 xL.length co17) xL) ∧ Aside0 (Kd.R k43 43 wc w.heap.size (fun k_ => some k_ ≠ ((.slice Ao17 xL.length co17) : Value).ownBlock) (.slice Ao23 t276.length co23) t276) ∧ Aside0 (wc.heap[gb272]? = some (.cells #[.int .i64 xE, (.slice Ao17 xL.length co17)] 24 (0, 0))) ∧ Aside0 (wc.heap[gb280]? = some (.cells #[.int .i64 t275, (.slice Ao23 t276.length co23)] 24 (0, 0))) ∧ Aside0 (Below w.heap.size w wc))
                     case first =>
                      have H := HC84.out
                      clear HC84
                      by_cases c85 : x15_5 = true
                      ·subst c85
                       have H1 : (if t275 = (wrap64 (xE + 1)) then (if t275 < xE then (racewaylaw15_ChartServes.j7 k5 l1 a2 x9_1 true t275 t276) else (if t275 = xE then ((chart_Same.f k5 xE xL t275 t276).bind fun t309 => (racewaylaw15_ChartServes.j7 k5 l1 a2 x9_1 (!t309) t275 t276)) else (racewaylaw15_ChartServes.j7 k5 l1 a2 x9_1 false t275 t276))) else (racewaylaw15_ChartServes.j7 k5 l1 a2 x9_1 true t275 t276)) = some r := by rw [if_pos rfl] at H; exact H
                       clear H
                       have H := H1
                       clear H1
                       by_cases c86 : t275 = (wrap64 (xE + 1))
                       ·rw [if_pos c86] at H
                        have c86b0 : (t275 == (wrap64 (xE + 1))) = true := beq_iff_eq.mpr c86
                        have c86b1 : (t275 != (wrap64 (xE + 1))) = false := bne_eq_false_iff_eq.mpr c86
                        clear c86
                        (first | rw [c86b0] | (simp only [i64_w, i32_w]; rw [c86b0]) | skip)
                        by_cases c87 : t275 < xE
                        ·rw [if_pos c87] at H
                         have c87b0 : decide (t275 < xE) = true := decide_eq_true c87
                         clear c87
                         as_aux_lemma =>
                          have H' := Aside0.mk H
                          clear H
                          have hnb88 := NB280_272.out
                          have hnc88 := NB272_280.out
                          have hcz89_0 : wr.cell? ⟨gb280, 0, none⟩ = some (.int .i64 t275) := (blk_cell BK280.out 0).trans rfl
                          have hcz89_1 : wr.cell? ⟨gb280, 1, none⟩ = some (.slice Ao23 t276.length co23) := (blk_cell BK280.out 1).trans rfl
                          have hfz89_0 := blk_frozen BK280.out 0
                          have hfz89_1 := blk_frozen BK280.out 1
                          have hcz90_0 : wr.cell? ⟨gb272, 0, none⟩ = some (.int .i64 xE) := (blk_cell BK272.out 0).trans rfl
                          have hcz90_1 : wr.cell? ⟨gb272, 1, none⟩ = some (.slice Ao17 xL.length co17) := (blk_cell BK272.out 1).trans rfl
                          have hfz90_0 := blk_frozen BK272.out 0
                          have hfz90_1 := blk_frozen BK272.out 1
                          go_wp2
                          go_meet
                          case rel => exact ⟨_, (true), (by first | rfl | (simp; done) | (simp [*]; done)), H', ⟨by have := HK1.out; have := HJ9.out; have := HK3.out; have := HJ35.out; have := HK5.out; first | omega | exact Nat.le_refl _⟩, ⟨by (with_reducible repeat (first | apply ra | apply rn | apply rw1)); exact HoL.out⟩, ⟨by (with_reducible repeat (first | apply ra | apply rn | apply rw1)); exact HoM.out⟩, ⟨by (with_reducible repeat (first | refine kn ?_ _ | refine kd ?_ | refine ka ?_ _)); exact BK272.out⟩, ⟨by (with_reducible repeat (first | refine kn ?_ _ | refine kd ?_ | refine ka ?_ _)); exact BK280.out⟩, ⟨by repeat (first | (with_reducible first | exact HB.out | apply ba | apply bd | apply b1 | refine bs ?_ GE272.out | refine bs ?_ GE280.out) | exact HB.out)⟩⟩
                        ·rw [if_neg c87] at H
                         have c87b0 : decide (t275 < xE) = false := decide_eq_false c87
                         clear c87
                         by_cases c91 : t275 = xE
                         ·rw [if_pos c91] at H
                          have c91b0 : (t275 == xE) = true := beq_iff_eq.mpr c91
                          have c91b1 : (t275 != xE) = false := bne_eq_false_iff_eq.mpr c91
                          clear c91
                          replace H := Option.bind_eq_some_iff.mp H
                          obtain ⟨t309, A920, H⟩ := H
                          replace H : (racewaylaw15_ChartServes.j7 k5 l1 a2 x9_1 (!t309) t275 t276) = some r := H
                          have A92 := Aside0.mk A920
                          clear A920
                          as_aux_lemma =>
                           have H' := Aside0.mk H
                           clear H
                           have hnb93 := NB280_272.out
                           have hnc93 := NB272_280.out
                           have hcz94_0 : wr.cell? ⟨gb280, 0, none⟩ = some (.int .i64 t275) := (blk_cell BK280.out 0).trans rfl
                           have hcz94_1 : wr.cell? ⟨gb280, 1, none⟩ = some (.slice Ao23 t276.length co23) := (blk_cell BK280.out 1).trans rfl
                           have hfz94_0 := blk_frozen BK280.out 0
                           have hfz94_1 := blk_frozen BK280.out 1
                           have hcz95_0 : wr.cell? ⟨gb272, 0, none⟩ = some (.int .i64 xE) := (blk_cell BK272.out 0).trans rfl
                           have hcz95_1 : wr.cell? ⟨gb272, 1, none⟩ = some (.slice Ao17 xL.length co17) := (blk_cell BK272.out 1).trans rfl
                           have hfz95_0 := blk_frozen BK272.out 0
                           have hfz95_1 := blk_frozen BK272.out 1
                           go_wp2_with (first | (go_at_call 11; (with_reducible refine (chart_Same.calls k5 xE _ _ xL t275 _ _ t276 t309 _ ?side1 ?side2 ?side3 ?side4 A92.out).mono ?_); (case side1 => repeat (first | exact (Kd.R_reads' HoL.out).2.2 | (with_reducible refine Kd.C_alloc ?_ _) | (with_reducible refine Kd.C_drewN ?_ _) | (with_reducible refine Kd.C_drew ?_))); (case side2 => exact (Kd.R_reads' HoL.out).2.1); (case side3 => repeat (first | exact (Kd.R_reads' HoM.out).2.2 | (with_reducible refine Kd.C_alloc ?_ _) | (with_reducible refine Kd.C_drewN ?_ _) | (with_reducible refine Kd.C_drew ?_))); (case side4 => exact (Kd.R_reads' HoM.out).2.1); rintro e w96 ⟨rfl, hb⟩; have n0_ := ak (Kd.R_below (by (with_reducible repeat (first | apply ra | apply rn | apply rw1)); exact HO_128.out) hb); have n1_ := ak (Kd.R_below (by (with_reducible repeat (first | apply ra | apply rn | apply rw1)); exact HoL.out) hb); have n2_ := ak (Kd.R_below (by (with_reducible repeat (first | apply ra | apply rn | apply rw1)); exact HoM.out) hb); have n3_ := ak (blk_below (g := gb272) (o := .cells #[.int .i64 xE, .slice Ao17 xL.length co17] 24 (0, 0)) (by (with_reducible repeat (first | refine kn ?_ _ | refine kd ?_ | refine ka ?_ _)); exact BK272.out) hb); have n4_ := ak (blk_below (g := gb280) (o := .cells #[.int .i64 t275, .slice Ao23 t276.length co23] 24 (0, 0)) (by (with_reducible repeat (first | refine kn ?_ _ | refine kd ?_ | refine ka ?_ _)); exact BK280.out) hb); have n5_ := ak (below_step (by repeat (first | (with_reducible first | exact HB.out | apply ba | apply bd | apply b1 | refine bs ?_ GE272.out | refine bs ?_ GE280.out) | exact HB.out)) hb); clear HO_128; clear HoL; clear HoM; clear BK272; clear BK280; clear HB; have HO_128 := n0_; have HoL := n1_; have HoM := n2_; have BK272 := n3_; have BK280 := n4_; have HB := n5_; clear n0_ n1_ n2_ n3_ n4_ n5_; (try clear hb); (try clear hb2); (try clear hk); (try clear hi)))
                           go_meet
                           case rel => exact ⟨_, (!t309), (by first | rfl | (simp; done) | (simp [*]; done)), H', ⟨by have := HK1.out; have := HJ9.out; have := HK3.out; have := HJ35.out; have := HK5.out; first | omega | exact Nat.le_refl _⟩, ⟨by (with_reducible repeat (first | apply ra | apply rn | apply rw1)); exact HoL.out⟩, ⟨by (with_reducible repeat (first | apply ra | apply rn | apply rw1)); exact HoM.out⟩, ⟨by (with_reducible repeat (first | refine kn ?_ _ | refine kd ?_ | refine ka ?_ _)); exact BK272.out⟩, ⟨by (with_reducible repeat (first | refine kn ?_ _ | refine kd ?_ | refine ka ?_ _)); exact BK280.out⟩, ⟨by repeat (first | (with_reducible first | exact HB.out | apply ba | apply bd | apply b1 | refine bs ?_ GE272.out | refine bs ?_ GE280.out) | exact HB.out)⟩⟩
                         ·rw [if_neg c91] at H
                          have c91b0 : (t275 == xE) = false := beq_eq_false_iff_ne.mpr c91
                          have c91b1 : (t275 != xE) = true := bne_iff_ne.mpr c91
                          as_aux_lemma =>
                           have H' := Aside0.mk H
                           clear H
                           have hnb97 := NB280_272.out
                           have hnc97 := NB272_280.out
                           have hcz98_0 : wr.cell? ⟨gb280, 0, none⟩ = some (.int .i64 t275) := (blk_cell BK280.out 0).trans rfl
                           have hcz98_1 : wr.cell? ⟨gb280, 1, none⟩ = some (.slice Ao23 t276.length co23) := (blk_cell BK280.out 1).trans rfl
                           have hfz98_0 := blk_frozen BK280.out 0
                           have hfz98_1 := blk_frozen BK280.out 1
                           have hcz99_0 : wr.cell? ⟨gb272, 0, none⟩ = some (.int .i64 xE) := (blk_cell BK272.out 0).trans rfl
                           have hcz99_1 : wr.cell? ⟨gb272, 1, none⟩ = some (.slice Ao17 xL.length co17) := (blk_cell BK272.out 1).trans rfl
                           have hfz99_0 := blk_frozen BK272.out 0
                           have hfz99_1 := blk_frozen BK272.out 1
                           go_wp2
                           go_meet
                           case rel => exact ⟨_, (false), (by first | rfl | (simp; done) | (simp [*]; done)), H', ⟨by have := HK1.out; have := HJ9.out; have := HK3.out; have := HJ35.out; have := HK5.out; first | omega | exact Nat.le_refl _⟩, ⟨by (with_reducible repeat (first | apply ra | apply rn | apply rw1)); exact HoL.out⟩, ⟨by (with_reducible repeat (first | apply ra | apply rn | apply rw1)); exact HoM.out⟩, ⟨by (with_reducible repeat (first | refine kn ?_ _ | refine kd ?_ | refine ka ?_ _)); exact BK272.out⟩, ⟨by (with_reducible repeat (first | refine kn ?_ _ | refine kd ?_ | refine ka ?_ _)); exact BK280.out⟩, ⟨by repeat (first | (with_reducible first | exact HB.out | apply ba | apply bd | apply b1 | refine bs ?_ GE272.out | refine bs ?_ GE280.out) | exact HB.out)⟩⟩
                       ·rw [if_neg c86] at H
                        have c86b0 : (t275 == (wrap64 (xE + 1))) = false := beq_eq_false_iff_ne.mpr c86
                        have c86b1 : (t275 != (wrap64 (xE + 1))) = true := bne_iff_ne.mpr c86
                        (first | rw [c86b0] | (simp only [i64_w, i32_w]; rw [c86b0]) | skip)
                        as_aux_lemma =>
                         have H' := Aside0.mk H
                         clear H
                         have hnb100 := NB280_272.out
                         have hnc100 := NB272_280.out
                         have hcz101_0 : wr.cell? ⟨gb280, 0, none⟩ = some (.int .i64 t275) := (blk_cell BK280.out 0).trans rfl
                         have hcz101_1 : wr.cell? ⟨gb280, 1, none⟩ = some (.slice Ao23 t276.length co23) := (blk_cell BK280.out 1).trans rfl
                         have hfz101_0 := blk_frozen BK280.out 0
                         have hfz101_1 := blk_frozen BK280.out 1
                         have hcz102_0 : wr.cell? ⟨gb272, 0, none⟩ = some (.int .i64 xE) := (blk_cell BK272.out 0).trans rfl
                         have hcz102_1 : wr.cell? ⟨gb272, 1, none⟩ = some (.slice Ao17 xL.length co17) := (blk_cell BK272.out 1).trans rfl
                         have hfz102_0 := blk_frozen BK272.out 0
                         have hfz102_1 := blk_frozen BK272.out 1
                         go_wp2
                         go_meet
                         case rel => exact ⟨_, (true), (by first | rfl | (simp; done) | (simp [*]; done)), H', ⟨by have := HK1.out; have := HJ9.out; have := HK3.out; have := HJ35.out; have := HK5.out; first | omega | exact Nat.le_refl _⟩, ⟨by (with_reducible repeat (first | apply ra | apply rn | apply rw1)); exact HoL.out⟩, ⟨by (with_reducible repeat (first | apply ra | apply rn | apply rw1)); exact HoM.out⟩, ⟨by (with_reducible repeat (first | refine kn ?_ _ | refine kd ?_ | refine ka ?_ _)); exact BK272.out⟩, ⟨by (with_reducible repeat (first | refine kn ?_ _ | refine kd ?_ | refine ka ?_ _)); exact BK280.out⟩, ⟨by repeat (first | (with_reducible first | exact HB.out | apply ba | apply bd | apply b1 | refine bs ?_ GE272.out | refine bs ?_ GE280.out) | exact HB.out)⟩⟩
                      ·replace c85 := Bool.eq_false_iff.mpr c85
                       subst c85
                       have H1 : (if t275 < xE then (racewaylaw15_ChartServes.j7 k5 l1 a2 x9_1 true t275 t276) else (if t275 = xE then ((chart_Same.f k5 xE xL t275 t276).bind fun t310 => (racewaylaw15_ChartServes.j7 k5 l1 a2 x9_1 (!t310) t275 t276)) else (racewaylaw15_ChartServes.j7 k5 l1 a2 x9_1 false t275 t276))) = some r := by rw [if_neg (show ¬ (false = true) by decide)] at H; exact H
                       clear H
                       have H := H1
                       clear H1
                       by_cases c103 : t275 < xE
                       ·rw [if_pos c103] at H
                        have c103b0 : decide (t275 < xE) = true := decide_eq_true c103
                        clear c103
                        as_aux_lemma =>
                         have H' := Aside0.mk H
                         clear H
                         have hnb104 := NB280_272.out
                         have hnc104 := NB272_280.out
                         have hcz105_0 : wr.cell? ⟨gb280, 0, none⟩ = some (.int .i64 t275) := (blk_cell BK280.out 0).trans rfl
                         have hcz105_1 : wr.cell? ⟨gb280, 1, none⟩ = some (.slice Ao23 t276.length co23) := (blk_cell BK280.out 1).trans rfl
                         have hfz105_0 := blk_frozen BK280.out 0
                         have hfz105_1 := blk_frozen BK280.out 1
                         have hcz106_0 : wr.cell? ⟨gb272, 0, none⟩ = some (.int .i64 xE) := (blk_cell BK272.out 0).trans rfl
                         have hcz106_1 : wr.cell? ⟨gb272, 1, none⟩ = some (.slice Ao17 xL.length co17) := (blk_cell BK272.out 1).trans rfl
                         have hfz106_0 := blk_frozen BK272.out 0
                         have hfz106_1 := blk_frozen BK272.out 1
                         go_wp2
                         go_meet
                         case rel => exact ⟨_, (true), (by first | rfl | (simp; done) | (simp [*]; done)), H', ⟨by have := HK1.out; have := HJ9.out; have := HK3.out; have := HJ35.out; have := HK5.out; first | omega | exact Nat.le_refl _⟩, ⟨by (with_reducible repeat (first | apply ra | apply rn | apply rw1)); exact HoL.out⟩, ⟨by (with_reducible repeat (first | apply ra | apply rn | apply rw1)); exact HoM.out⟩, ⟨by (with_reducible repeat (first | refine kn ?_ _ | refine kd ?_ | refine ka ?_ _)); exact BK272.out⟩, ⟨by (with_reducible repeat (first | refine kn ?_ _ | refine kd ?_ | refine ka ?_ _)); exact BK280.out⟩, ⟨by repeat (first | (with_reducible first | exact HB.out | apply ba | apply bd | apply b1 | refine bs ?_ GE272.out | refine bs ?_ GE280.out) | exact HB.out)⟩⟩
                       ·rw [if_neg c103] at H
                        have c103b0 : decide (t275 < xE) = false := decide_eq_false c103
                        clear c103
                        by_cases c107 : t275 = xE
                        ·rw [if_pos c107] at H
                         have c107b0 : (t275 == xE) = true := beq_iff_eq.mpr c107
                         have c107b1 : (t275 != xE) = false := bne_eq_false_iff_eq.mpr c107
                         clear c107
                         replace H := Option.bind_eq_some_iff.mp H
                         obtain ⟨t310, A1080, H⟩ := H
                         replace H : (racewaylaw15_ChartServes.j7 k5 l1 a2 x9_1 (!t310) t275 t276) = some r := H
                         have A108 := Aside0.mk A1080
                         clear A1080
                         as_aux_lemma =>
                          have H' := Aside0.mk H
                          clear H
                          have hnb109 := NB280_272.out
                          have hnc109 := NB272_280.out
                          have hcz110_0 : wr.cell? ⟨gb280, 0, none⟩ = some (.int .i64 t275) := (blk_cell BK280.out 0).trans rfl
                          have hcz110_1 : wr.cell? ⟨gb280, 1, none⟩ = some (.slice Ao23 t276.length co23) := (blk_cell BK280.out 1).trans rfl
                          have hfz110_0 := blk_frozen BK280.out 0
                          have hfz110_1 := blk_frozen BK280.out 1
                          have hcz111_0 : wr.cell? ⟨gb272, 0, none⟩ = some (.int .i64 xE) := (blk_cell BK272.out 0).trans rfl
                          have hcz111_1 : wr.cell? ⟨gb272, 1, none⟩ = some (.slice Ao17 xL.length co17) := (blk_cell BK272.out 1).trans rfl
                          have hfz111_0 := blk_frozen BK272.out 0
                          have hfz111_1 := blk_frozen BK272.out 1
                          go_wp2_with (first | (go_at_call 11; (with_reducible refine (chart_Same.calls k5 xE _ _ xL t275 _ _ t276 t310 _ ?side1 ?side2 ?side3 ?side4 A108.out).mono ?_); (case side1 => repeat (first | exact (Kd.R_reads' HoL.out).2.2 | (with_reducible refine Kd.C_alloc ?_ _) | (with_reducible refine Kd.C_drewN ?_ _) | (with_reducible refine Kd.C_drew ?_))); (case side2 => exact (Kd.R_reads' HoL.out).2.1); (case side3 => repeat (first | exact (Kd.R_reads' HoM.out).2.2 | (with_reducible refine Kd.C_alloc ?_ _) | (with_reducible refine Kd.C_drewN ?_ _) | (with_reducible refine Kd.C_drew ?_))); (case side4 => exact (Kd.R_reads' HoM.out).2.1); rintro e w112 ⟨rfl, hb⟩; have n0_ := ak (Kd.R_below (by (with_reducible repeat (first | apply ra | apply rn | apply rw1)); exact HO_128.out) hb); have n1_ := ak (Kd.R_below (by (with_reducible repeat (first | apply ra | apply rn | apply rw1)); exact HoL.out) hb); have n2_ := ak (Kd.R_below (by (with_reducible repeat (first | apply ra | apply rn | apply rw1)); exact HoM.out) hb); have n3_ := ak (blk_below (g := gb272) (o := .cells #[.int .i64 xE, .slice Ao17 xL.length co17] 24 (0, 0)) (by (with_reducible repeat (first | refine kn ?_ _ | refine kd ?_ | refine ka ?_ _)); exact BK272.out) hb); have n4_ := ak (blk_below (g := gb280) (o := .cells #[.int .i64 t275, .slice Ao23 t276.length co23] 24 (0, 0)) (by (with_reducible repeat (first | refine kn ?_ _ | refine kd ?_ | refine ka ?_ _)); exact BK280.out) hb); have n5_ := ak (below_step (by repeat (first | (with_reducible first | exact HB.out | apply ba | apply bd | apply b1 | refine bs ?_ GE272.out | refine bs ?_ GE280.out) | exact HB.out)) hb); clear HO_128; clear HoL; clear HoM; clear BK272; clear BK280; clear HB; have HO_128 := n0_; have HoL := n1_; have HoM := n2_; have BK272 := n3_; have BK280 := n4_; have HB := n5_; clear n0_ n1_ n2_ n3_ n4_ n5_; (try clear hb); (try clear hb2); (try clear hk); (try clear hi)))
                          go_meet
                          case rel => exact ⟨_, (!t310), (by first | rfl | (simp; done) | (simp [*]; done)), H', ⟨by have := HK1.out; have := HJ9.out; have := HK3.out; have := HJ35.out; have := HK5.out; first | omega | exact Nat.le_refl _⟩, ⟨by (with_reducible repeat (first | apply ra | apply rn | apply rw1)); exact HoL.out⟩, ⟨by (with_reducible repeat (first | apply ra | apply rn | apply rw1)); exact HoM.out⟩, ⟨by (with_reducible repeat (first | refine kn ?_ _ | refine kd ?_ | refine ka ?_ _)); exact BK272.out⟩, ⟨by (with_reducible repeat (first | refine kn ?_ _ | refine kd ?_ | refine ka ?_ _)); exact BK280.out⟩, ⟨by repeat (first | (with_reducible first | exact HB.out | apply ba | apply bd | apply b1 | refine bs ?_ GE272.out | refine bs ?_ GE280.out) | exact HB.out)⟩⟩
                        ·rw [if_neg c107] at H
                         have c107b0 : (t275 == xE) = false := beq_eq_false_iff_ne.mpr c107
                         have c107b1 : (t275 != xE) = true := bne_iff_ne.mpr c107
                         as_aux_lemma =>
                          have H' := Aside0.mk H
                          clear H
                          have hnb113 := NB280_272.out
                          have hnc113 := NB272_280.out
                          have hcz114_0 : wr.cell? ⟨gb280, 0, none⟩ = some (.int .i64 t275) := (blk_cell BK280.out 0).trans rfl
                          have hcz114_1 : wr.cell? ⟨gb280, 1, none⟩ = some (.slice Ao23 t276.length co23) := (blk_cell BK280.out 1).trans rfl
                          have hfz114_0 := blk_frozen BK280.out 0
                          have hfz114_1 := blk_frozen BK280.out 1
                          have hcz115_0 : wr.cell? ⟨gb272, 0, none⟩ = some (.int .i64 xE) := (blk_cell BK272.out 0).trans rfl
                          have hcz115_1 : wr.cell? ⟨gb272, 1, none⟩ = some (.slice Ao17 xL.length co17) := (blk_cell BK272.out 1).trans rfl
                          have hfz115_0 := blk_frozen BK272.out 0
                          have hfz115_1 := blk_frozen BK272.out 1
                          go_wp2
                          go_meet
                          case rel => exact ⟨_, (false), (by first | rfl | (simp; done) | (simp [*]; done)), H', ⟨by have := HK1.out; have := HJ9.out; have := HK3.out; have := HJ35.out; have := HK5.out; first | omega | exact Nat.le_refl _⟩, ⟨by (with_reducible repeat (first | apply ra | apply rn | apply rw1)); exact HoL.out⟩, ⟨by (with_reducible repeat (first | apply ra | apply rn | apply rw1)); exact HoM.out⟩, ⟨by (with_reducible repeat (first | refine kn ?_ _ | refine kd ?_ | refine ka ?_ _)); exact BK272.out⟩, ⟨by (with_reducible repeat (first | refine kn ?_ _ | refine kd ?_ | refine ka ?_ _)); exact BK280.out⟩, ⟨by repeat (first | (with_reducible first | exact HB.out | apply ba | apply bd | apply b1 | refine bs ?_ GE272.out | refine bs ?_ GE280.out) | exact HB.out)⟩⟩
                     case rest =>
                      clear HC84
                      try clear c1
                      try clear c2
                      try clear p2
                      try clear q2
                      try clear hx2
                      try clear c3
                      try clear p3
                      try clear q3
                      try clear hx3
                      try clear c4
                      try clear c5
                      try clear c5b0
                      try clear c5b1
                      try clear c6
                      try clear p6
                      try clear c7
                      try clear c8
                      try clear c9
                      try clear c10
                      try clear c11
                      try clear c11b0
                      try clear c12
                      try clear c13
                      try clear c13b0
                      try clear c14
                      try clear c14b0
                      try clear c15
                      try clear c16
                      try clear c16b0
                      try clear c16b1
                      try clear c17
                      try clear c18
                      try clear c25
                      try clear c27
                      try clear c27b0
                      try clear p27
                      try clear q27
                      try clear hx27
                      try clear c28
                      try clear c28b0
                      try clear p28
                      try clear q28
                      try clear hx28
                      try clear c29
                      try clear c29b0
                      try clear p29
                      try clear q29
                      try clear hx29
                      try clear c30
                      try clear p30
                      try clear q30
                      try clear hx30
                      try clear c32
                      try clear c33
                      try clear c38
                      try clear c40
                      try clear c45
                      try clear c48
                      try clear c49
                      try clear c49b0
                      try clear c50
                      try clear c50b0
                      try clear c55
                      try clear c55b0
                      try clear c56
                      try clear c56b0
                      try clear c57
                      try clear c57b0
                      try clear c64
                      try clear c64b0
                      try clear p64
                      try clear c65
                      try clear c65b0
                      try clear c67
                      try clear c68
                      try clear c68b0
                      try clear c68b1
                      try clear c70
                      try clear c77
                      try clear c82
                      try clear c83
                      try clear c85
                      try clear c86
                      try clear c86b0
                      try clear c86b1
                      try clear c87
                      try clear c87b0
                      try clear c88
                      try clear c91
                      try clear c91b0
                      try clear c91b1
                      try clear c93
                      try clear c97
                      try clear c100
                      try clear c103
                      try clear c103b0
                      try clear c104
                      try clear c107
                      try clear c107b0
                      try clear c107b1
                      try clear c109
                      try clear c113
                      try clear hcz101_0
                      try clear hcz101_1
                      try clear hcz102_0
                      try clear hcz102_1
                      try clear hcz105_0
                      try clear hcz105_1
                      try clear hcz106_0
                      try clear hcz106_1
                      try clear hcz110_0
                      try clear hcz110_1
                      try clear hcz111_0
                      try clear hcz111_1
                      try clear hcz114_0
                      try clear hcz114_1
                      try clear hcz115_0
                      try clear hcz115_1
                      try clear hcz26_0
                      try clear hcz26_1
                      try clear hcz34_0
                      try clear hcz34_1
                      try clear hcz34_2
                      try clear hcz41_0
                      try clear hcz41_1
                      try clear hcz46_0
                      try clear hcz46_1
                      try clear hcz89_0
                      try clear hcz89_1
                      try clear hcz8_0
                      try clear hcz8_1
                      try clear hcz90_0
                      try clear hcz90_1
                      try clear hcz94_0
                      try clear hcz94_1
                      try clear hcz95_0
                      try clear hcz95_1
                      try clear hcz98_0
                      try clear hcz98_1
                      try clear hcz99_0
                      try clear hcz99_1
                      try clear hfz101_0
                      try clear hfz101_1
                      try clear hfz102_0
                      try clear hfz102_1
                      try clear hfz105_0
                      try clear hfz105_1
                      try clear hfz106_0
                      try clear hfz106_1
                      try clear hfz110_0
                      try clear hfz110_1
                      try clear hfz111_0
                      try clear hfz111_1
                      try clear hfz114_0
                      try clear hfz114_1
                      try clear hfz115_0
                      try clear hfz115_1
                      try clear hfz26_0
                      try clear hfz26_1
                      try clear hfz34_0
                      try clear hfz34_1
                      try clear hfz34_2
                      try clear hfz41_0
                      try clear hfz41_1
                      try clear hfz46_0
                      try clear hfz46_1
                      try clear hfz89_0
                      try clear hfz89_1
                      try clear hfz8_0
                      try clear hfz8_1
                      try clear hfz90_0
                      try clear hfz90_1
                      try clear hfz94_0
                      try clear hfz94_1
                      try clear hfz95_0
                      try clear hfz95_1
                      try clear hfz98_0
                      try clear hfz98_1
                      try clear hfz99_0
                      try clear hfz99_1
                      try clear hx273_0
                      try clear hx273_1
                      try clear hx273_2
                      try clear hx274_0
                      try clear hx274_1
                      try clear hx274_2
                      try clear hx285_0
                      try clear hx285_1
                      try clear hx285_2
                      try clear hx292_0
                      try clear hx292_1
                      try clear hx292_2
                      try clear hx293_0
                      try clear hx293_1
                      try clear hx293_2
                      try clear hx294_0
                      try clear hx294_1
                      try clear hx294_2
                      try clear hx295_0
                      try clear hx295_1
                      try clear hx295_2
                      try clear hx299_0
                      try clear hx302_0
                      try clear hx302_1
                      try clear hx302_2
                      try clear hx304_0
                      try clear hx304_1
                      try clear hx304_2
                      try clear hx305_0
                      try clear hx305_1
                      try clear hx305_2
                      try clear hx307_0
                      try clear hx307_1
                      try clear hx307_2
                      try clear p2
                      try clear p27
                      try clear p273
                      try clear p274
                      try clear p28
                      try clear p285
                      try clear p29
                      try clear p292
                      try clear p293
                      try clear p294
                      try clear p295
                      try clear p299
                      try clear p3
                      try clear p30
                      try clear p302
                      try clear p304
                      try clear p305
                      try clear p307
                      try clear p6
                      try clear p64
                      try clear q2
                      try clear q27
                      try clear q273
                      try clear q274
                      try clear q28
                      try clear q285
                      try clear q29
                      try clear q292
                      try clear q293
                      try clear q294
                      try clear q295
                      try clear q299
                      try clear q3
                      try clear q30
                      try clear q302
                      try clear q304
                      try clear q305
                      try clear q307
                      obtain ⟨kq, x206_83, rfl, HA, HJ83, HoL, HoM, BK272, BK280, HB⟩ := hcut
                      cases kq with
                      | zero => exact absurd HA.out (by simp [racewaylaw15_ChartServes.j7])
                      | succ kj83 =>
                       have H := HA.out
                       clear HA
                       simp only [racewaylaw15_ChartServes.j7] at H
                       by_cases c116 : x206_83 = true
                       ·subst c116
                        have H1 : (some false) = some r := by rw [if_pos rfl] at H; exact H
                        clear H
                        have H := H1
                        clear H1
                        exact absurd (Option.some.inj H) (by rw [hrt.out]; decide)
                       ·replace c116 := Bool.eq_false_iff.mpr c116
                        subst c116
                        have H1 : (racewaylaw15_ChartServes.l0 kj83 l1 a2 (wrap64 (x9_1 + 1)) t275 t276) = some r := by rw [if_neg (show ¬ (false = true) by decide)] at H; exact H
                        clear H
                        have H := H1
                        clear H1
                        as_aux_lemma =>
                         have H' := Aside0.mk H
                         clear H
                         have hnb117 := NB280_272.out
                         have hnc117 := NB272_280.out
                         have hcz118_0 : wc.cell? ⟨gb280, 0, none⟩ = some (.int .i64 t275) := (blk_cell BK280.out 0).trans rfl
                         have hcz118_1 : wc.cell? ⟨gb280, 1, none⟩ = some (.slice Ao23 t276.length co23) := (blk_cell BK280.out 1).trans rfl
                         have hfz118_0 := blk_frozen BK280.out 0
                         have hfz118_1 := blk_frozen BK280.out 1
                         have hcz119_0 : wc.cell? ⟨gb272, 0, none⟩ = some (.int .i64 xE) := (blk_cell BK272.out 0).trans rfl
                         have hcz119_1 : wc.cell? ⟨gb272, 1, none⟩ = some (.slice Ao17 xL.length co17) := (blk_cell BK272.out 1).trans rfl
                         have hfz119_0 := blk_frozen BK272.out 0
                         have hfz119_1 := blk_frozen BK272.out 1
                         go_wp2
                         go_roundg kj83
                         case measure => have := HK1.out; have := HJ9.out; have := HK3.out; have := HJ35.out; have := HK5.out; have := HJ83.out; omega
                         case rel => exact ⟨(wrap64 (x9_1 + 1)), (t275), (t276), (.slice Ao23 t276.length co23), (by first | rfl | (simp; done) | (simp [*]; done)), H', ⟨by have := HK1.out; have := HJ9.out; have := HK3.out; have := HJ35.out; have := HK5.out; have := HJ83.out; omega⟩, ⟨by (with_reducible repeat (first | apply ra | apply rn | apply rw1)); exact Kd.R_mono (Kd.R_far (p := ⟨gb272, 1, none⟩) (Kd.R_far (p := ⟨gb272, 0, none⟩) (Kd.R_types HoM.out BK272.out (by decide)) (fun _ hk => hk.2) (.int .i64 t275)) (fun _ hk => hk.2) (.slice Ao23 t276.length co23)) (fun _ hk => trivial)⟩, ⟨by (with_reducible repeat (first | refine kn ?_ _ | refine kd ?_ | refine ka ?_ _)); refine blk_put (cs := #[.int .i64 t275, .slice Ao17 xL.length co17]) ?_ 1 _ rfl; (with_reducible repeat (first | refine kn ?_ _ | refine kd ?_ | refine ka ?_ _)); refine blk_put (cs := #[.int .i64 xE, .slice Ao17 xL.length co17]) ?_ 0 _ rfl; (with_reducible repeat (first | refine kn ?_ _ | refine kd ?_ | refine ka ?_ _)); exact BK272.out⟩, ⟨by repeat (first | (with_reducible first | exact HB.out | apply ba | apply bd | apply b1 | refine bs ?_ GE272.out | refine bs ?_ GE280.out) | exact HB.out)⟩⟩
                 ·rw [if_neg c50] at H
                  exact absurd H (by simp)
                ·rw [if_neg c49] at H
                 exact absurd H (by simp)
         ·rw [if_neg c16] at H
          have c16b0 : (t279 == 0) = false := beq_eq_false_iff_ne.mpr c16
          have c16b1 : (t279 != 0) = true := bne_iff_ne.mpr c16
          have HC120 := Aside0.mk H
          clear H
          obtain ⟨Ao121, co121, eo121⟩ := Kd.R_slice HoL.out
          subst eo121
          try go_wp2
          have n0_ := ak (rw1 HoL.out)
          have n1_ := ak (kd BK272.out)
          have n2_ := ak (b1 HB.out)
          clear HoL
          clear BK272
          clear HB
          have HoL := n0_
          have BK272 := n1_
          have HB := n2_
          clear n0_ n1_ n2_
          have p273 : 0 ≤ (x9_1 : Int) := of_decide_eq_true (by first | (with_reducible assumption) | assumption)
          have q273 : x9_1 < (l1.length : Int) := of_decide_eq_true (by first | (with_reducible assumption) | assumption)
          obtain ⟨ad273, e273, hx273_0, hx273_1, hx273_2⟩ := at_T39 HR1.out x9_1 p273 q273
          have hw273_2 := hx273_2
          have hw273_1 := hx273_1
          have hw273_0 := hx273_0
          cases e273
          replace hx273_0 := pw_cell_below HB.out hx273_0
          replace hx273_1 := pw_cell_below HB.out hx273_1
          replace hx273_2 := pw_cell_below HB.out hx273_2
          replace p273 := eq_true p273
          replace q273 := eq_true q273
          have p274 : 0 ≤ (x9_1 : Int) := of_decide_eq_true (by first | (with_reducible assumption) | assumption)
          have q274 : x9_1 < (l1.length : Int) := of_decide_eq_true (by first | (with_reducible assumption) | assumption)
          obtain ⟨ad274, e274, hx274_0, hx274_1, hx274_2⟩ := at_T39 HR1.out x9_1 p274 q274
          have hw274_2 := hx274_2
          have hw274_1 := hx274_1
          have hw274_0 := hx274_0
          obtain rfl : ad273 = ad274 := (by injection e274)
          replace hx274_0 := pw_cell_below HB.out hx274_0
          replace hx274_1 := pw_cell_below HB.out hx274_1
          replace hx274_2 := pw_cell_below HB.out hx274_2
          replace p274 := eq_true p274
          replace q274 := eq_true q274
          refine start_ (n := 18) (S := fun w' => w'.cell? ⟨gb272, 0, none⟩ = some (.int .i64 xE) ∧ w'.cell? ⟨gb272, 1, none⟩ = some (.slice Ao121 xL.length co121) ∧ w'.cell? (ad273.add ((x9_1).toNat * 3)) = some (.int .i64 ((rd_T39 l1 x9_1).f0.f0)) ∧ w'.cell? ⟨(ad273.add ((x9_1).toNat * 3)).block, (ad273.add ((x9_1).toNat * 3)).off + 1, none⟩ = some (.int .i64 ((rd_T39 l1 x9_1).f0.f1)) ∧ w'.cell? ⟨(ad273.add ((x9_1).toNat * 3)).block, (ad273.add ((x9_1).toNat * 3)).off + 2, none⟩ = some (.int .i64 ((rd_T39 l1 x9_1).f1)) ∧ w'.cell? (ad273.add ((x9_1).toNat * 3)) = some (.int .i64 ((rd_T39 l1 x9_1).f0.f0)) ∧ w'.cell? ⟨(ad273.add ((x9_1).toNat * 3)).block, (ad273.add ((x9_1).toNat * 3)).off + 1, none⟩ = some (.int .i64 ((rd_T39 l1 x9_1).f0.f1)) ∧ w'.cell? ⟨(ad273.add ((x9_1).toNat * 3)).block, (ad273.add ((x9_1).toNat * 3)).off + 2, none⟩ = some (.int .i64 ((rd_T39 l1 x9_1).f1))) (ds := []) #[false,false,false,false,false,false,false,false,false,false,false,false,false,false,false,false,false,false] (by kernel_rfl) rfl rfl ⟨(blk_cell BK272.out 0).trans rfl, (blk_cell BK272.out 1).trans rfl, (pw_cell_below HB.out hw273_0), (pw_cell_below HB.out hw273_1), (pw_cell_below HB.out hw273_2), (pw_cell_below HB.out hw274_0), (pw_cell_below HB.out hw274_1), (pw_cell_below HB.out hw274_2)⟩ (fun hHeld => ?_); refine with_tabW racewaylaw15_ChartServes.tab7 racewaylaw15_ChartServes.bits7 (fun HT_ HW_ => ?_)
          generalize wc.drew = w122 at HoL BK272 HB hx273_0 hx273_1 hx273_2 hx274_0 hx274_1 hx274_2 hHeld ⊢
          refine pure_ (i := 1) (N := some 43) (v := ?_) (a' := ?_) #[false,true,false,false,false,false,false,false,false,false,false,false,false,false,false,false,false,false] rfl rfl (any_of HT_.out (by kernel_rfl)) (fun _ _ _ h => h) (Or.inl ⟨by rfl, ?_⟩) ?_ ?_
          rotate_left
          ·intro w'
           go_simp
           with_reducible rfl
          rotate_left
          ·simp only [Act.put, setIfInBounds_toArray, set_cons_zero, set_cons_succ, i64_w, i32_w]
           rfl
          refine pure_ (i := 2) (N := some 44) (v := ?_) (a' := ?_) #[false,true,true,false,false,false,false,false,false,false,false,false,false,false,false,false,false,false] rfl rfl (any_of HT_.out (by kernel_rfl)) (fun _ _ _ h => h) (Or.inl ⟨by rfl, ?_⟩) ?_ ?_
          rotate_left
          ·intro w'
           go_simp
           with_reducible rfl
          rotate_left
          ·simp only [Act.put, setIfInBounds_toArray, set_cons_zero, set_cons_succ, i64_w, i32_w]
           rfl
          refine pure_ (i := 3) (N := some 45) (v := ?_) (a' := ?_) #[false,true,true,true,false,false,false,false,false,false,false,false,false,false,false,false,false,false] rfl rfl (any_of HT_.out (by kernel_rfl)) (fun _ _ _ h => h) (Or.inl ⟨by rfl, ?_⟩) ?_ ?_
          rotate_left
          ·intro w'
           go_simp
           with_reducible rfl
          rotate_left
          ·simp only [Act.put, setIfInBounds_toArray, set_cons_zero, set_cons_succ, i64_w, i32_w]
           rfl
          refine pure_ (i := 4) (N := some 46) (v := ?_) (a' := ?_) #[false,true,true,true,true,false,false,false,false,false,false,false,false,false,false,false,false,false] rfl rfl (any_of HT_.out (by kernel_rfl)) (fun _ _ _ h => h) (Or.inl ⟨by rfl, ?_⟩) ?_ ?_
          rotate_left
          ·intro w'
           go_simp
           with_reducible rfl
          rotate_left
          ·simp only [Act.put, setIfInBounds_toArray, set_cons_zero, set_cons_succ, i64_w, i32_w]
           rfl
          refine pure_ (i := 6) (N := some 48) (v := ?_) (a' := ?_) #[false,true,true,true,true,false,true,false,false,false,false,false,false,false,false,false,false,false] rfl rfl (any_of HT_.out (by kernel_rfl)) (fun _ _ _ h => h) (Or.inl ⟨by rfl, ?_⟩) ?_ ?_
          rotate_left
          ·intro w'
           go_simp
           with_reducible rfl
          rotate_left
          ·simp only [Act.put, setIfInBounds_toArray, set_cons_zero, set_cons_succ, i64_w, i32_w]
           rfl
          refine pure_ (i := 7) (N := some 49) (v := ?_) (a' := ?_) #[false,true,true,true,true,false,true,true,false,false,false,false,false,false,false,false,false,false] rfl rfl (any_of HT_.out (by kernel_rfl)) (fun _ _ _ h => h) (Or.inl ⟨by rfl, ?_⟩) ?_ ?_
          rotate_left
          ·intro w'
           go_simp
           with_reducible rfl
          rotate_left
          ·simp only [Act.put, setIfInBounds_toArray, set_cons_zero, set_cons_succ, i64_w, i32_w]
           rfl
          refine pure_ (i := 8) (N := some 50) (v := ?_) (a' := ?_) #[false,true,true,true,true,false,true,true,true,false,false,false,false,false,false,false,false,false] rfl rfl (any_of HT_.out (by kernel_rfl)) (fun _ _ _ h => h) (Or.inl ⟨by rfl, ?_⟩) ?_ ?_
          rotate_left
          ·intro w'
           go_simp
           with_reducible rfl
          rotate_left
          ·simp only [Act.put, setIfInBounds_toArray, set_cons_zero, set_cons_succ, i64_w, i32_w]
           rfl
          refine pure_ (i := 9) (N := some 51) (v := ?_) (a' := ?_) #[false,true,true,true,true,false,true,true,true,true,false,false,false,false,false,false,false,false] rfl rfl (any_of HT_.out (by kernel_rfl)) (fun _ _ _ h => h) (Or.inl ⟨by rfl, ?_⟩) ?_ ?_
          rotate_left
          ·intro w'
           go_simp
           with_reducible rfl
          rotate_left
          ·simp only [Act.put, setIfInBounds_toArray, set_cons_zero, set_cons_succ, i64_w, i32_w]
           rfl
          refine take_ (i := 0) (N := some 42) (v := ?_) (a' := ?_) #[true,true,true,true,true,false,true,true,true,true,false,false,false,false,false,false,false,false] rfl rfl (take_ofW HT_.out HW_.out (by kernel_rfl)) (fun _ _ _ h => h) (Or.inl ⟨by rfl, ?_⟩) hHeld ?_ ?_
          rotate_left
          ·rintro w' ⟨s0, s1, s2, s3, s4, s5, s6, s7⟩
           go_simp
           with_reducible rfl
          rotate_left
          ·simp only [Act.put, setIfInBounds_toArray, set_cons_zero, set_cons_succ, i64_w, i32_w]
           rfl
          refine take_ (i := 5) (N := some 47) (v := ?_) (a' := ?_) #[true,true,true,true,true,true,true,true,true,true,false,false,false,false,false,false,false,false] rfl rfl (take_ofW HT_.out HW_.out (by kernel_rfl)) (fun _ _ _ h => h) (Or.inl ⟨by rfl, ?_⟩) hHeld ?_ ?_
          rotate_left
          ·rintro w' ⟨s0, s1, s2, s3, s4, s5, s6, s7⟩
           go_simp
           with_reducible rfl
          rotate_left
          ·simp only [Act.put, setIfInBounds_toArray, set_cons_zero, set_cons_succ, i64_w, i32_w]
           rfl
          refine take_ (i := 10) (N := some 52) (v := ?_) (a' := ?_) #[true,true,true,true,true,true,true,true,true,true,true,false,false,false,false,false,false,false] rfl rfl (take_ofW HT_.out HW_.out (by kernel_rfl)) (fun _ _ _ h => h) (Or.inl ⟨by rfl, ?_⟩) hHeld ?_ ?_
          rotate_left
          ·rintro w' ⟨s0, s1, s2, s3, s4, s5, s6, s7⟩
           go_simp
           with_reducible rfl
          rotate_left
          ·simp only [Act.put, setIfInBounds_toArray, set_cons_zero, set_cons_succ, i64_w, i32_w]
           rfl
          refine join_ (σ := Value × Nat) 2 #[true,true,true,true,true,true,true,true,true,true,true,true,true,true,true,true,false,false] (fun s_ => [(53, .tuple #[.agg #[.int .i64 t275, s_.1], .int .i64 t279]), (10, .pointer (some ⟨s_.2, 0, none⟩)), (41, .tuple #[.agg #[.int .i64 t275, s_.1], .int .i64 t279]), (54, .agg #[.int .i64 t275, s_.1]), (55, .int .i64 t279)]) (fun s_ w' => (w'.cell? ⟨gb272, 0, none⟩ = some (.int .i64 xE) ∧ w'.cell? ⟨gb272, 1, none⟩ = some (.slice Ao121 xL.length co121) ∧ w'.cell? (ad273.add ((x9_1).toNat * 3)) = some (.int .i64 ((rd_T39 l1 x9_1).f0.f0)) ∧ w'.cell? ⟨(ad273.add ((x9_1).toNat * 3)).block, (ad273.add ((x9_1).toNat * 3)).off + 1, none⟩ = some (.int .i64 ((rd_T39 l1 x9_1).f0.f1)) ∧ w'.cell? ⟨(ad273.add ((x9_1).toNat * 3)).block, (ad273.add ((x9_1).toNat * 3)).off + 2, none⟩ = some (.int .i64 ((rd_T39 l1 x9_1).f1)) ∧ w'.cell? (ad273.add ((x9_1).toNat * 3)) = some (.int .i64 ((rd_T39 l1 x9_1).f0.f0)) ∧ w'.cell? ⟨(ad273.add ((x9_1).toNat * 3)).block, (ad273.add ((x9_1).toNat * 3)).off + 1, none⟩ = some (.int .i64 ((rd_T39 l1 x9_1).f0.f1)) ∧ w'.cell? ⟨(ad273.add ((x9_1).toNat * 3)).block, (ad273.add ((x9_1).toNat * 3)).off + 2, none⟩ = some (.int .i64 ((rd_T39 l1 x9_1).f1))) ∧ (Kd.R k43 43 w' w.heap.size (fun k_ => some k_ ≠ (.slice Ao121 xL.length co121 : Value).ownBlock) s_.1 t276) ∧ (Kd.R k43 43 w' w.heap.size (fun k_ => some k_ ≠ (s_.1 : Value).ownBlock) (.slice Ao121 xL.length co121) xL) ∧ (w'.heap[gb272]? = some (.cells #[.int .i64 xE, .slice Ao121 xL.length co121] 24 (0, 0))) ∧ (w'.heap[s_.2]? = some (.cells #[.int .i64 0, .slice none 0 0] 24 (0, 0))) ∧ (w.heap.size ≤ s_.2) ∧ (w.heap.size ≤ s_.2) ∧ (gb272 ≠ s_.2) ∧ (s_.2 ≠ gb272) ∧ (Below w.heap.size w w')) ?_ ?_
          rotate_left
          ·intro hCont
           refine two_ (i := 11) (j := 15) (Ni := some 53) (Nj := some 10) #[true,true,true,true,true,true,true,true,true,true,true,true,false,false,false,false,false,false] #[true,true,true,true,true,true,true,true,true,true,true,false,false,false,false,true,false,false] rfl rfl rfl rfl (two_of HT_.out (by kernel_rfl)) (by decide) (by decide) (fun K hK => ?_) (fun K hK => ?_)
           ·skip
            refine goes_ Try.func8 (by kernel_rfl) rfl #[.agg #[.int .i64 xE, .slice Ao121 xL.length co121], .agg #[.int .i64 ((rd_T39 l1 x9_1).f0.f0), .int .i64 ((rd_T39 l1 x9_1).f0.f1)], .int .i64 ((rd_T39 l1 x9_1).f1)] (by rfl) rfl rfl (by (try simp only [List.map_toArray, List.map_cons, List.map_nil]); first | done | rfl | (simp only [List.length_drop, List.length_take]; rfl)) ?_
            with_reducible refine (chart_Move.calls kj9 xE _ _ xL ((rd_T39 l1 x9_1).f0.f0) ((rd_T39 l1 x9_1).f0.f1) ((rd_T39 l1 x9_1).f1) t275 t276 t279 _ ?side1 ?side2 A15.out).mono ?_
            (case side1 => repeat (first | exact (Kd.R_reads' HoL.out).2.2 | (with_reducible refine Kd.C_alloc ?_ _) | (with_reducible refine Kd.C_drewN ?_ _) | (with_reducible refine Kd.C_drew ?_)))
            (case side2 => exact (Kd.R_reads' HoL.out).2.1)
            rintro e w123 ⟨v277, rfl, ho0, hb⟩
            refine ⟨_, rfl, ?_⟩
            have n0_ := ak (Kd.R_elder' (by (with_reducible repeat (first | apply ra | apply rn | apply rw1)); exact HoL.out) (Kd.R_base ho0) hb)
            have n1_ := ak (Kd.R_lower (Kd.R_new' ho0 (Kd.R_lt (by (with_reducible repeat (first | apply ra | apply rn | apply rw1)); exact HoL.out))) (below_size (by repeat (first | (with_reducible first | exact HB.out | apply ba | apply bd | apply b1 | refine bs ?_ GE272.out) | exact HB.out))))
            have n2_ := ak (blk_below (g := gb272) (o := .cells #[.int .i64 xE, .slice Ao121 xL.length co121] 24 (0, 0)) (by (with_reducible repeat (first | refine kn ?_ _ | refine kd ?_ | refine ka ?_ _)); exact BK272.out) hb)
            have n3_ := ak (below_step (by repeat (first | (with_reducible first | exact HB.out | apply ba | apply bd | apply b1 | refine bs ?_ GE272.out) | exact HB.out)) hb)
            clear HoL
            clear BK272
            clear HB
            have HoL := n0_
            have HO278 := n1_
            have BK272 := n2_
            have HB := n3_
            clear n0_ n1_ n2_ n3_
            (try clear hb)
            (try clear hb2)
            (try clear hk)
            (try clear hi)
            (try clear ho0)
            refine hK.out _ _ ⟨(blk_cell BK272.out 0).trans rfl, (blk_cell BK272.out 1).trans rfl, (pw_cell_below HB.out hw273_0), (pw_cell_below HB.out hw273_1), (pw_cell_below HB.out hw273_2), (pw_cell_below HB.out hw274_0), (pw_cell_below HB.out hw274_1), (pw_cell_below HB.out hw274_2)⟩ (fun hHeld => ?_)
            clear hK K
            refine norm_ (a' := ?_) ?_ ?_
            rotate_left
            ·show Act.put _ (some 53) _ = _
             simp only [Act.put, setIfInBounds_toArray, set_cons_zero, set_cons_succ, i64_w, i32_w]
             rfl
            refine pure_ (i := 12) (N := some 41) (v := ?_) (a' := ?_) #[true,true,true,true,true,true,true,true,true,true,true,true,true,false,false,false,false,false] rfl rfl (any_of HT_.out (by kernel_rfl)) (fun _ _ _ h => h) (Or.inl ⟨by rfl, ?_⟩) ?_ ?_
            rotate_left
            ·intro w'
             go_simp
             with_reducible rfl
            rotate_left
            ·simp only [Act.put, setIfInBounds_toArray, set_cons_zero, set_cons_succ, i64_w, i32_w]
             rfl
            refine pure_ (i := 13) (N := some 54) (v := ?_) (a' := ?_) #[true,true,true,true,true,true,true,true,true,true,true,true,true,true,false,false,false,false] rfl rfl (any_of HT_.out (by kernel_rfl)) (fun _ _ _ h => h) (Or.inl ⟨by rfl, ?_⟩) ?_ ?_
            rotate_left
            ·intro w'
             go_simp
             with_reducible rfl
            rotate_left
            ·simp only [Act.put, setIfInBounds_toArray, set_cons_zero, set_cons_succ, i64_w, i32_w]
             rfl
            refine pure_ (i := 14) (N := some 55) (v := ?_) (a' := ?_) #[true,true,true,true,true,true,true,true,true,true,true,true,true,true,true,false,false,false] rfl rfl (any_of HT_.out (by kernel_rfl)) (fun _ _ _ h => h) (Or.inl ⟨by rfl, ?_⟩) ?_ ?_
            rotate_left
            ·intro w'
             go_simp
             with_reducible rfl
            rotate_left
            ·simp only [Act.put, setIfInBounds_toArray, set_cons_zero, set_cons_succ, i64_w, i32_w]
             rfl
            refine one_ (i := 15) (N := some 10) #[true,true,true,true,true,true,true,true,true,true,true,true,true,true,true,true,false,false] rfl rfl (one_of HT_.out (by kernel_rfl)) (by decide) (fun K hK => ?_)
            refine box_step ?hg (N := 10) ?hd (cs := #[.int .i64 0, .slice none 0 0]) (t := 24) ?hr ?_; (case hd => rfl); (case hg => rfl); (case hr => first | (go_simp; done) | (go_simp; rfl))
            intro gb280 hg w124 hbox hb
            have n0_ := ak (Kd.R_below (by (with_reducible repeat (first | apply ra | apply rn | apply rw1)); exact HoL.out) hb)
            have n1_ := ak (Kd.R_below (by (with_reducible repeat (first | apply ra | apply rn | apply rw1)); exact HO278.out) hb)
            have n2_ := ak (blk_below (g := gb272) (o := .cells #[.int .i64 xE, .slice Ao121 xL.length co121] 24 (0, 0)) (by (with_reducible repeat (first | refine kn ?_ _ | refine kd ?_ | refine ka ?_ _)); exact BK272.out) hb)
            have n3_ := ak (below_step (by repeat (first | (with_reducible first | exact HB.out | apply ba | apply bd | apply b1 | refine bs ?_ GE272.out) | exact HB.out)) hb)
            have n4_ := ak (hbox)
            have n5_ := ak ((by rw [hg]; exact (below_size (by repeat (first | (with_reducible first | exact HB.out | apply ba | apply bd | apply b1 | refine bs ?_ GE272.out) | exact HB.out))) : w.heap.size ≤ gb280))
            have n6_ := ak ((by rw [hg]; exact (below_size (by repeat (first | (with_reducible first | exact HB.out | apply ba | apply bd | apply b1 | refine bs ?_ GE272.out) | exact HB.out))) : w.heap.size ≤ gb280))
            have n7_ := ak ((by rw [hg]; exact Nat.ne_of_lt (blk_lt (g := gb272) (o := .cells #[.int .i64 xE, .slice Ao121 xL.length co121] 24 (0, 0)) (by (with_reducible repeat (first | refine kn ?_ _ | refine kd ?_ | refine ka ?_ _)); exact BK272.out)) : gb272 ≠ gb280))
            have n8_ := ak ((by rw [hg]; exact Nat.ne_of_gt (blk_lt (g := gb272) (o := .cells #[.int .i64 xE, .slice Ao121 xL.length co121] 24 (0, 0)) (by (with_reducible repeat (first | refine kn ?_ _ | refine kd ?_ | refine ka ?_ _)); exact BK272.out)) : gb280 ≠ gb272))
            clear HoL
            clear HO278
            clear BK272
            clear HB
            have HoL := n0_
            have HO278 := n1_
            have BK272 := n2_
            have HB := n3_
            have BK280 := n4_
            have GW280 := n5_
            have GE280 := n6_
            have NB272_280 := n7_
            have NB280_272 := n8_
            clear n0_ n1_ n2_ n3_ n4_ n5_ n6_ n7_ n8_
            clear hb hbox hg
            refine hK.out _ _ ⟨(blk_cell BK272.out 0).trans rfl, (blk_cell BK272.out 1).trans rfl, (pw_cell_below HB.out hw273_0), (pw_cell_below HB.out hw273_1), (pw_cell_below HB.out hw273_2), (pw_cell_below HB.out hw274_0), (pw_cell_below HB.out hw274_1), (pw_cell_below HB.out hw274_2)⟩ (fun hHeld => ?_)
            clear hK K
            refine norm_ (a' := ?_) ?_ ?_
            rotate_left
            ·show Act.put _ (some 10) _ = _
             simp only [Act.put, setIfInBounds_toArray, set_cons_zero, set_cons_succ, i64_w, i32_w]
             rfl
            exact norm_ (by simp only [putAll, Act.put, setIfInBounds_toArray, set_cons_zero, set_cons_succ]) (hCont (v277, gb280) _ ⟨hHeld, (by (with_reducible repeat (first | apply ra | apply rn | apply rw1)); exact Kd.R_mono HO278.out (fun _ hk => hk.2)), (by (with_reducible repeat (first | apply ra | apply rn | apply rw1)); exact Kd.R_mono HoL.out (fun _ hk => hk.2)), (by (with_reducible repeat (first | refine kn ?_ _ | refine kd ?_ | refine ka ?_ _)); exact BK272.out), (by (with_reducible repeat (first | refine kn ?_ _ | refine kd ?_ | refine ka ?_ _)); exact BK280.out), GW280.out, GE280.out, NB272_280.out, NB280_272.out, (by repeat (first | (with_reducible first | exact HB.out | apply ba | apply bd | apply b1 | refine bs ?_ GE272.out | refine bs ?_ GE280.out) | exact HB.out))⟩)
           ·skip
            refine box_step ?hg (N := 10) ?hd (cs := #[.int .i64 0, .slice none 0 0]) (t := 24) ?hr ?_; (case hd => rfl); (case hg => rfl); (case hr => first | (go_simp; done) | (go_simp; rfl))
            intro gb280 hg w123 hbox hb
            have n0_ := ak (Kd.R_below (by (with_reducible repeat (first | apply ra | apply rn | apply rw1)); exact HoL.out) hb)
            have n1_ := ak (blk_below (g := gb272) (o := .cells #[.int .i64 xE, .slice Ao121 xL.length co121] 24 (0, 0)) (by (with_reducible repeat (first | refine kn ?_ _ | refine kd ?_ | refine ka ?_ _)); exact BK272.out) hb)
            have n2_ := ak (below_step (by repeat (first | (with_reducible first | exact HB.out | apply ba | apply bd | apply b1 | refine bs ?_ GE272.out) | exact HB.out)) hb)
            have n3_ := ak (hbox)
            have n4_ := ak ((by rw [hg]; exact (below_size (by repeat (first | (with_reducible first | exact HB.out | apply ba | apply bd | apply b1 | refine bs ?_ GE272.out) | exact HB.out))) : w.heap.size ≤ gb280))
            have n5_ := ak ((by rw [hg]; exact (below_size (by repeat (first | (with_reducible first | exact HB.out | apply ba | apply bd | apply b1 | refine bs ?_ GE272.out) | exact HB.out))) : w.heap.size ≤ gb280))
            have n6_ := ak ((by rw [hg]; exact Nat.ne_of_lt (blk_lt (g := gb272) (o := .cells #[.int .i64 xE, .slice Ao121 xL.length co121] 24 (0, 0)) (by (with_reducible repeat (first | refine kn ?_ _ | refine kd ?_ | refine ka ?_ _)); exact BK272.out)) : gb272 ≠ gb280))
            have n7_ := ak ((by rw [hg]; exact Nat.ne_of_gt (blk_lt (g := gb272) (o := .cells #[.int .i64 xE, .slice Ao121 xL.length co121] 24 (0, 0)) (by (with_reducible repeat (first | refine kn ?_ _ | refine kd ?_ | refine ka ?_ _)); exact BK272.out)) : gb280 ≠ gb272))
            clear HoL
            clear BK272
            clear HB
            have HoL := n0_
            have BK272 := n1_
            have HB := n2_
            have BK280 := n3_
            have GW280 := n4_
            have GE280 := n5_
            have NB272_280 := n6_
            have NB280_272 := n7_
            clear n0_ n1_ n2_ n3_ n4_ n5_ n6_ n7_
            clear hb hbox hg
            refine hK.out _ _ ⟨(blk_cell BK272.out 0).trans rfl, (blk_cell BK272.out 1).trans rfl, (pw_cell_below HB.out hw273_0), (pw_cell_below HB.out hw273_1), (pw_cell_below HB.out hw273_2), (pw_cell_below HB.out hw274_0), (pw_cell_below HB.out hw274_1), (pw_cell_below HB.out hw274_2)⟩ (fun hHeld => ?_)
            clear hK K
            refine norm_ (a' := ?_) ?_ ?_
            rotate_left
            ·show Act.put _ (some 10) _ = _
             simp only [Act.put, setIfInBounds_toArray, set_cons_zero, set_cons_succ, i64_w, i32_w]
             rfl
            refine one_ (i := 11) (N := some 53) #[true,true,true,true,true,true,true,true,true,true,true,true,false,false,false,true,false,false] rfl rfl (one_of HT_.out (by kernel_rfl)) (by decide) (fun K hK => ?_)
            refine goes_ Try.func8 (by kernel_rfl) rfl #[.agg #[.int .i64 xE, .slice Ao121 xL.length co121], .agg #[.int .i64 ((rd_T39 l1 x9_1).f0.f0), .int .i64 ((rd_T39 l1 x9_1).f0.f1)], .int .i64 ((rd_T39 l1 x9_1).f1)] (by rfl) rfl rfl (by (try simp only [List.map_toArray, List.map_cons, List.map_nil]); first | done | rfl | (simp only [List.length_drop, List.length_take]; rfl)) ?_
            with_reducible refine (chart_Move.calls kj9 xE _ _ xL ((rd_T39 l1 x9_1).f0.f0) ((rd_T39 l1 x9_1).f0.f1) ((rd_T39 l1 x9_1).f1) t275 t276 t279 _ ?side1 ?side2 A15.out).mono ?_
            (case side1 => repeat (first | exact (Kd.R_reads' HoL.out).2.2 | (with_reducible refine Kd.C_alloc ?_ _) | (with_reducible refine Kd.C_drewN ?_ _) | (with_reducible refine Kd.C_drew ?_)))
            (case side2 => exact (Kd.R_reads' HoL.out).2.1)
            rintro e w124 ⟨v277, rfl, ho0, hb⟩
            refine ⟨_, rfl, ?_⟩
            have n0_ := ak (Kd.R_elder' (by (with_reducible repeat (first | apply ra | apply rn | apply rw1)); exact HoL.out) (Kd.R_base ho0) hb)
            have n1_ := ak (Kd.R_lower (Kd.R_new' ho0 (Kd.R_lt (by (with_reducible repeat (first | apply ra | apply rn | apply rw1)); exact HoL.out))) (below_size (by repeat (first | (with_reducible first | exact HB.out | apply ba | apply bd | apply b1 | refine bs ?_ GE272.out | refine bs ?_ GE280.out) | exact HB.out))))
            have n2_ := ak (blk_below (g := gb272) (o := .cells #[.int .i64 xE, .slice Ao121 xL.length co121] 24 (0, 0)) (by (with_reducible repeat (first | refine kn ?_ _ | refine kd ?_ | refine ka ?_ _)); exact BK272.out) hb)
            have n3_ := ak (blk_below (g := gb280) (o := .cells #[.int .i64 0, .slice none 0 0] 24 (0, 0)) (by (with_reducible repeat (first | refine kn ?_ _ | refine kd ?_ | refine ka ?_ _)); exact BK280.out) hb)
            have n4_ := ak (below_step (by repeat (first | (with_reducible first | exact HB.out | apply ba | apply bd | apply b1 | refine bs ?_ GE272.out | refine bs ?_ GE280.out) | exact HB.out)) hb)
            clear HoL
            clear BK272
            clear BK280
            clear HB
            have HoL := n0_
            have HO278 := n1_
            have BK272 := n2_
            have BK280 := n3_
            have HB := n4_
            clear n0_ n1_ n2_ n3_ n4_
            (try clear hb)
            (try clear hb2)
            (try clear hk)
            (try clear hi)
            (try clear ho0)
            refine hK.out _ _ ⟨(blk_cell BK272.out 0).trans rfl, (blk_cell BK272.out 1).trans rfl, (pw_cell_below HB.out hw273_0), (pw_cell_below HB.out hw273_1), (pw_cell_below HB.out hw273_2), (pw_cell_below HB.out hw274_0), (pw_cell_below HB.out hw274_1), (pw_cell_below HB.out hw274_2)⟩ (fun hHeld => ?_)
            clear hK K
            refine norm_ (a' := ?_) ?_ ?_
            rotate_left
            ·show Act.put _ (some 53) _ = _
             simp only [Act.put, setIfInBounds_toArray, set_cons_zero, set_cons_succ, i64_w, i32_w]
             rfl
            refine pure_ (i := 12) (N := some 41) (v := ?_) (a' := ?_) #[true,true,true,true,true,true,true,true,true,true,true,true,true,false,false,true,false,false] rfl rfl (any_of HT_.out (by kernel_rfl)) (fun _ _ _ h => h) (Or.inl ⟨by rfl, ?_⟩) ?_ ?_
            rotate_left
            ·intro w'
             go_simp
             with_reducible rfl
            rotate_left
            ·simp only [Act.put, setIfInBounds_toArray, set_cons_zero, set_cons_succ, i64_w, i32_w]
             rfl
            refine pure_ (i := 13) (N := some 54) (v := ?_) (a' := ?_) #[true,true,true,true,true,true,true,true,true,true,true,true,true,true,false,true,false,false] rfl rfl (any_of HT_.out (by kernel_rfl)) (fun _ _ _ h => h) (Or.inl ⟨by rfl, ?_⟩) ?_ ?_
            rotate_left
            ·intro w'
             go_simp
             with_reducible rfl
            rotate_left
            ·simp only [Act.put, setIfInBounds_toArray, set_cons_zero, set_cons_succ, i64_w, i32_w]
             rfl
            refine pure_ (i := 14) (N := some 55) (v := ?_) (a' := ?_) #[true,true,true,true,true,true,true,true,true,true,true,true,true,true,true,true,false,false] rfl rfl (any_of HT_.out (by kernel_rfl)) (fun _ _ _ h => h) (Or.inl ⟨by rfl, ?_⟩) ?_ ?_
            rotate_left
            ·intro w'
             go_simp
             with_reducible rfl
            rotate_left
            ·simp only [Act.put, setIfInBounds_toArray, set_cons_zero, set_cons_succ, i64_w, i32_w]
             rfl
            exact norm_ (by simp only [putAll, Act.put, setIfInBounds_toArray, set_cons_zero, set_cons_succ]) (hCont (v277, gb280) _ ⟨hHeld, (by (with_reducible repeat (first | apply ra | apply rn | apply rw1)); exact Kd.R_mono HO278.out (fun _ hk => hk.2)), (by (with_reducible repeat (first | apply ra | apply rn | apply rw1)); exact Kd.R_mono HoL.out (fun _ hk => hk.2)), (by (with_reducible repeat (first | refine kn ?_ _ | refine kd ?_ | refine ka ?_ _)); exact BK272.out), (by (with_reducible repeat (first | refine kn ?_ _ | refine kd ?_ | refine ka ?_ _)); exact BK280.out), GW280.out, GE280.out, NB272_280.out, NB280_272.out, (by repeat (first | (with_reducible first | exact HB.out | apply ba | apply bd | apply b1 | refine bs ?_ GE272.out | refine bs ?_ GE280.out) | exact HB.out))⟩)
          rintro ⟨v277, gb280⟩ w125 ⟨hS_, h0_, h1_, h2_, h3_, h4_, h5_, h6_, h7_, h8_⟩
          have n0_ : Aside0 (Kd.R k43 43 w125 w.heap.size (fun k_ => some k_ ≠ (.slice Ao121 xL.length co121 : Value).ownBlock) v277 t276) := ⟨h0_⟩
          have n1_ : Aside0 (Kd.R k43 43 w125 w.heap.size (fun k_ => some k_ ≠ (v277 : Value).ownBlock) (.slice Ao121 xL.length co121) xL) := ⟨h1_⟩
          have n2_ : Aside0 (w125.heap[gb272]? = some (.cells #[.int .i64 xE, .slice Ao121 xL.length co121] 24 (0, 0))) := ⟨h2_⟩
          have n3_ : Aside0 (w125.heap[gb280]? = some (.cells #[.int .i64 0, .slice none 0 0] 24 (0, 0))) := ⟨h3_⟩
          have n4_ : Aside0 (w.heap.size ≤ gb280) := ⟨h4_⟩
          have n5_ : Aside0 (w.heap.size ≤ gb280) := ⟨h5_⟩
          have n6_ : Aside0 (gb272 ≠ gb280) := ⟨h6_⟩
          have n7_ : Aside0 (gb280 ≠ gb272) := ⟨h7_⟩
          have n8_ : Aside0 (Below w.heap.size w w125) := ⟨h8_⟩
          clear HoL
          clear BK272
          clear HB
          clear h0_ h1_ h2_ h3_ h4_ h5_ h6_ h7_ h8_
          have HO278 := n0_
          have HoL := n1_
          have BK272 := n2_
          have BK280 := n3_
          have GW280 := n4_
          have GE280 := n5_
          have NB272_280 := n6_
          have NB280_272 := n7_
          have HB := n8_
          clear n0_ n1_ n2_ n3_ n4_ n5_ n6_ n7_ n8_
          have hHeld : w125.cell? ⟨gb272, 0, none⟩ = some (.int .i64 xE) ∧ w125.cell? ⟨gb272, 1, none⟩ = some (.slice Ao121 xL.length co121) ∧ w125.cell? (ad273.add ((x9_1).toNat * 3)) = some (.int .i64 ((rd_T39 l1 x9_1).f0.f0)) ∧ w125.cell? ⟨(ad273.add ((x9_1).toNat * 3)).block, (ad273.add ((x9_1).toNat * 3)).off + 1, none⟩ = some (.int .i64 ((rd_T39 l1 x9_1).f0.f1)) ∧ w125.cell? ⟨(ad273.add ((x9_1).toNat * 3)).block, (ad273.add ((x9_1).toNat * 3)).off + 2, none⟩ = some (.int .i64 ((rd_T39 l1 x9_1).f1)) ∧ w125.cell? (ad273.add ((x9_1).toNat * 3)) = some (.int .i64 ((rd_T39 l1 x9_1).f0.f0)) ∧ w125.cell? ⟨(ad273.add ((x9_1).toNat * 3)).block, (ad273.add ((x9_1).toNat * 3)).off + 1, none⟩ = some (.int .i64 ((rd_T39 l1 x9_1).f0.f1)) ∧ w125.cell? ⟨(ad273.add ((x9_1).toNat * 3)).block, (ad273.add ((x9_1).toNat * 3)).off + 2, none⟩ = some (.int .i64 ((rd_T39 l1 x9_1).f1)) := hS_
          obtain ⟨Ao127, co127, eo127⟩ := Kd.R_slice HO278.out
          (first | subst eo127 | (injection eo127 with f1_ f2_ f3_; have f4_ := f1_.symm; have f5_ := f3_.symm; clear f1_ f2_ f3_; subst f4_; subst f5_))
          refine norm_ (a' := ?_) ?_ ?_
          rotate_left
          ·simp only [putAll, Act.put, setIfInBounds_toArray, set_cons_zero, set_cons_succ]
           rfl
          refine one_ (i := 16) (N := none) #[true,true,true,true,true,true,true,true,true,true,true,true,true,true,true,true,true,false] rfl rfl (one_of HT_.out (by kernel_rfl)) (by decide) (fun K hK => ?_)
          have hs126 : w125.cell? ⟨gb280, 0, none⟩ = some (.int .i64 0) := (blk_cell BK280.out 0).trans rfl
          have hfs126 := blk_frozen BK280.out 0
          have hns126_0 := NB272_280.out
          have hms126_0 := NB280_272.out
          have hs128 : w125.cell? ⟨gb280, 1, none⟩ = some (.slice none 0 0) := (blk_cell BK280.out 1).trans rfl
          have hfs128 := blk_frozen BK280.out 1
          have hns128_0 := NB272_280.out
          have hms128_0 := NB280_272.out
          refine skip_ (w1 := ?_) (by rfl) rfl ?_ ?_
          rotate_left
          ·go_simp
           rfl
          refine hK.out _ _ ⟨((cell_far (p := ⟨gb280, _, none⟩) NB272_280.out _).trans (((cell_far (p := ⟨gb280, _, none⟩) NB272_280.out _).trans (hHeld.1)))), ((cell_far (p := ⟨gb280, _, none⟩) NB272_280.out _).trans (((cell_far (p := ⟨gb280, _, none⟩) NB272_280.out _).trans (hHeld.2.1)))), ((cell_far (p := ⟨gb280, _, none⟩) (by first | ((try dsimp only); (try rw [add_block]); exact Nat.ne_of_lt (Nat.lt_of_lt_of_le (by have := World.block_lt_of_cell? _ _ hw273_0; first | rwa [add_block] at this | exact this) GW280.out)) | (show (Addr.add _ _).block ≠ _; rw [add_block]; exact Nat.ne_of_lt (Nat.lt_of_lt_of_le (by have := World.block_lt_of_cell? _ _ hw273_0; first | rwa [add_block] at this | exact this) GW280.out))) _).trans (((cell_far (p := ⟨gb280, _, none⟩) (by first | ((try dsimp only); (try rw [add_block]); exact Nat.ne_of_lt (Nat.lt_of_lt_of_le (by have := World.block_lt_of_cell? _ _ hw273_0; first | rwa [add_block] at this | exact this) GW280.out)) | (show (Addr.add _ _).block ≠ _; rw [add_block]; exact Nat.ne_of_lt (Nat.lt_of_lt_of_le (by have := World.block_lt_of_cell? _ _ hw273_0; first | rwa [add_block] at this | exact this) GW280.out))) _).trans (hHeld.2.2.1)))), ((cell_far (p := ⟨gb280, _, none⟩) (by first | ((try dsimp only); (try rw [add_block]); exact Nat.ne_of_lt (Nat.lt_of_lt_of_le (by have := World.block_lt_of_cell? _ _ hw273_1; first | rwa [add_block] at this | exact this) GW280.out)) | (show (Addr.add _ _).block ≠ _; rw [add_block]; exact Nat.ne_of_lt (Nat.lt_of_lt_of_le (by have := World.block_lt_of_cell? _ _ hw273_1; first | rwa [add_block] at this | exact this) GW280.out))) _).trans (((cell_far (p := ⟨gb280, _, none⟩) (by first | ((try dsimp only); (try rw [add_block]); exact Nat.ne_of_lt (Nat.lt_of_lt_of_le (by have := World.block_lt_of_cell? _ _ hw273_1; first | rwa [add_block] at this | exact this) GW280.out)) | (show (Addr.add _ _).block ≠ _; rw [add_block]; exact Nat.ne_of_lt (Nat.lt_of_lt_of_le (by have := World.block_lt_of_cell? _ _ hw273_1; first | rwa [add_block] at this | exact this) GW280.out))) _).trans (hHeld.2.2.2.1)))), ((cell_far (p := ⟨gb280, _, none⟩) (by first | ((try dsimp only); (try rw [add_block]); exact Nat.ne_of_lt (Nat.lt_of_lt_of_le (by have := World.block_lt_of_cell? _ _ hw273_2; first | rwa [add_block] at this | exact this) GW280.out)) | (show (Addr.add _ _).block ≠ _; rw [add_block]; exact Nat.ne_of_lt (Nat.lt_of_lt_of_le (by have := World.block_lt_of_cell? _ _ hw273_2; first | rwa [add_block] at this | exact this) GW280.out))) _).trans (((cell_far (p := ⟨gb280, _, none⟩) (by first | ((try dsimp only); (try rw [add_block]); exact Nat.ne_of_lt (Nat.lt_of_lt_of_le (by have := World.block_lt_of_cell? _ _ hw273_2; first | rwa [add_block] at this | exact this) GW280.out)) | (show (Addr.add _ _).block ≠ _; rw [add_block]; exact Nat.ne_of_lt (Nat.lt_of_lt_of_le (by have := World.block_lt_of_cell? _ _ hw273_2; first | rwa [add_block] at this | exact this) GW280.out))) _).trans (hHeld.2.2.2.2.1)))), ((cell_far (p := ⟨gb280, _, none⟩) (by first | ((try dsimp only); (try rw [add_block]); exact Nat.ne_of_lt (Nat.lt_of_lt_of_le (by have := World.block_lt_of_cell? _ _ hw274_0; first | rwa [add_block] at this | exact this) GW280.out)) | (show (Addr.add _ _).block ≠ _; rw [add_block]; exact Nat.ne_of_lt (Nat.lt_of_lt_of_le (by have := World.block_lt_of_cell? _ _ hw274_0; first | rwa [add_block] at this | exact this) GW280.out))) _).trans (((cell_far (p := ⟨gb280, _, none⟩) (by first | ((try dsimp only); (try rw [add_block]); exact Nat.ne_of_lt (Nat.lt_of_lt_of_le (by have := World.block_lt_of_cell? _ _ hw274_0; first | rwa [add_block] at this | exact this) GW280.out)) | (show (Addr.add _ _).block ≠ _; rw [add_block]; exact Nat.ne_of_lt (Nat.lt_of_lt_of_le (by have := World.block_lt_of_cell? _ _ hw274_0; first | rwa [add_block] at this | exact this) GW280.out))) _).trans (hHeld.2.2.2.2.2.1)))), ((cell_far (p := ⟨gb280, _, none⟩) (by first | ((try dsimp only); (try rw [add_block]); exact Nat.ne_of_lt (Nat.lt_of_lt_of_le (by have := World.block_lt_of_cell? _ _ hw274_1; first | rwa [add_block] at this | exact this) GW280.out)) | (show (Addr.add _ _).block ≠ _; rw [add_block]; exact Nat.ne_of_lt (Nat.lt_of_lt_of_le (by have := World.block_lt_of_cell? _ _ hw274_1; first | rwa [add_block] at this | exact this) GW280.out))) _).trans (((cell_far (p := ⟨gb280, _, none⟩) (by first | ((try dsimp only); (try rw [add_block]); exact Nat.ne_of_lt (Nat.lt_of_lt_of_le (by have := World.block_lt_of_cell? _ _ hw274_1; first | rwa [add_block] at this | exact this) GW280.out)) | (show (Addr.add _ _).block ≠ _; rw [add_block]; exact Nat.ne_of_lt (Nat.lt_of_lt_of_le (by have := World.block_lt_of_cell? _ _ hw274_1; first | rwa [add_block] at this | exact this) GW280.out))) _).trans (hHeld.2.2.2.2.2.2.1)))), ((cell_far (p := ⟨gb280, _, none⟩) (by first | ((try dsimp only); (try rw [add_block]); exact Nat.ne_of_lt (Nat.lt_of_lt_of_le (by have := World.block_lt_of_cell? _ _ hw274_2; first | rwa [add_block] at this | exact this) GW280.out)) | (show (Addr.add _ _).block ≠ _; rw [add_block]; exact Nat.ne_of_lt (Nat.lt_of_lt_of_le (by have := World.block_lt_of_cell? _ _ hw274_2; first | rwa [add_block] at this | exact this) GW280.out))) _).trans (((cell_far (p := ⟨gb280, _, none⟩) (by first | ((try dsimp only); (try rw [add_block]); exact Nat.ne_of_lt (Nat.lt_of_lt_of_le (by have := World.block_lt_of_cell? _ _ hw274_2; first | rwa [add_block] at this | exact this) GW280.out)) | (show (Addr.add _ _).block ≠ _; rw [add_block]; exact Nat.ne_of_lt (Nat.lt_of_lt_of_le (by have := World.block_lt_of_cell? _ _ hw274_2; first | rwa [add_block] at this | exact this) GW280.out))) _).trans (hHeld.2.2.2.2.2.2.2))))⟩ (fun hHeld => ?_)
          clear hK K
          refine pure_ (i := 17) (N := some 11) (v := ?_) (a' := ?_) #[true,true,true,true,true,true,true,true,true,true,true,true,true,true,true,true,true,true] rfl rfl (any_of HT_.out (by kernel_rfl)) (fun _ _ _ h => h) (Or.inl ⟨by rfl, ?_⟩) ?_ ?_
          rotate_left
          ·intro w'
           go_simp
           with_reducible rfl
          rotate_left
          ·simp only [Act.put, setIfInBounds_toArray, set_cons_zero, set_cons_succ, i64_w, i32_w]
           rfl
          refine done_ (done_of HT_.out (by kernel_rfl)) ?_
          go_upto_region 9 with (fail)
          go_cut [79] (fun v79 wc => ∃ (kq : Nat) (x79_119 : Bool), v79 = .bool x79_119 ∧ Aside0 (racewaylaw15_ChartServes.j2 kq l1 a2 x9_1 x79_119 xE xL = some r) ∧ Aside0 (kq ≤ kj9) ∧ Aside0 (Kd.R k43 43 wc w.heap.size (fun k_ => some k_ ≠ ((.slice Ao127 t276.length co127) : Value).ownBlock) (.slice Ao121 xL.length co121) xL) ∧ Aside0 (Kd.R k43 43 wc w.heap.size (fun k_ => some k_ ≠ ((.slice Ao121 xL.length co121) : Value).ownBlock) (.slice Ao127 t276.length co127) t276) ∧ Aside0 (wc.heap[gb272]? = some (.cells #[.int .i64 xE, (.slice Ao121 xL.length co121)] 24 (0, 0))) ∧ Aside0 (wc.heap[gb280]? = some (.cells #[.int .i64 t275, (.slice Ao127 t276.length co127)] 24 (0, 0))) ∧ Aside0 (Below w.heap.size w wc))
          case first =>
           have H := HC120.out
           clear HC120
           replace H := Option.bind_eq_some_iff.mp H
           obtain ⟨t282, A1290, H⟩ := H
           replace H : (if t282 = true then (if ((rd_T39 l1 x9_1).f1) ≥ 1 then (racewaylaw15_ChartServes.j2 kj9 l1 a2 x9_1 (decide (((rd_T39 l1 x9_1).f1) ≤ 6)) xE xL) else (racewaylaw15_ChartServes.j2 kj9 l1 a2 x9_1 false xE xL)) else (racewaylaw15_ChartServes.j2 kj9 l1 a2 x9_1 false xE xL)) = some r := H
           have A129 := Aside0.mk A1290
           clear A1290
           by_cases c130 : t282 = true
           ·subst c130
            have H1 : (if ((rd_T39 l1 x9_1).f1) ≥ 1 then (racewaylaw15_ChartServes.j2 kj9 l1 a2 x9_1 (decide (((rd_T39 l1 x9_1).f1) ≤ 6)) xE xL) else (racewaylaw15_ChartServes.j2 kj9 l1 a2 x9_1 false xE xL)) = some r := by rw [if_pos rfl] at H; exact H
            clear H
            have H := H1
            clear H1
            by_cases c131 : ((rd_T39 l1 x9_1).f1) ≥ 1
            ·rw [if_pos c131] at H
             have c131b0 : decide (1 ≤ ((rd_T39 l1 x9_1).f1)) = true := decide_eq_true c131
             clear c131
             (first | rw [c131b0] | (simp only [i64_w, i32_w]; rw [c131b0]) | skip)
             as_aux_lemma =>
              have H' := Aside0.mk H
              clear H
              have p281 : 0 ≤ (x9_1 : Int) := of_decide_eq_true (by first | (with_reducible assumption) | assumption)
              have q281 : x9_1 < (l1.length : Int) := of_decide_eq_true (by first | (with_reducible assumption) | assumption)
              obtain ⟨ad281, e281, hx281_0, hx281_1, hx281_2⟩ := at_T39 HR1.out x9_1 p281 q281
              obtain rfl : ad273 = ad281 := (by injection e281)
              have hn281_0 : ad273.block ≠ gb280 := Nat.ne_of_lt (Nat.lt_of_lt_of_le (by have := World.block_lt_of_cell? _ _ hx281_0; first | rwa [add_block] at this | exact this) GW280.out)
              have hn281_1 : ad273.block ≠ gb280 := Nat.ne_of_lt (Nat.lt_of_lt_of_le (by have := World.block_lt_of_cell? _ _ hx281_0; first | rwa [add_block] at this | exact this) GW280.out)
              replace hx281_0 := pw_cell_below HB.out hx281_0
              replace hx281_1 := pw_cell_below HB.out hx281_1
              replace hx281_2 := pw_cell_below HB.out hx281_2
              replace hx281_0 := (cell_far (p := ⟨gb280, 0, none⟩) (by first | (rw [add_block]; exact hn281_0) | (show (Addr.add _ _).block ≠ _; rw [add_block]; exact hn281_0) | exact hn281_0) (.int .i64 t275)).trans hx281_0
              replace hx281_1 := (cell_far (p := ⟨gb280, 0, none⟩) (by first | (rw [add_block]; exact hn281_0) | (show (Addr.add _ _).block ≠ _; rw [add_block]; exact hn281_0) | exact hn281_0) (.int .i64 t275)).trans hx281_1
              replace hx281_2 := (cell_far (p := ⟨gb280, 0, none⟩) (by first | (rw [add_block]; exact hn281_0) | (show (Addr.add _ _).block ≠ _; rw [add_block]; exact hn281_0) | exact hn281_0) (.int .i64 t275)).trans hx281_2
              replace hx281_0 := (cell_far (p := ⟨gb280, 1, none⟩) (by first | (rw [add_block]; exact hn281_1) | (show (Addr.add _ _).block ≠ _; rw [add_block]; exact hn281_1) | exact hn281_1) (.slice Ao127 t276.length co127)).trans hx281_0
              replace hx281_1 := (cell_far (p := ⟨gb280, 1, none⟩) (by first | (rw [add_block]; exact hn281_1) | (show (Addr.add _ _).block ≠ _; rw [add_block]; exact hn281_1) | exact hn281_1) (.slice Ao127 t276.length co127)).trans hx281_1
              replace hx281_2 := (cell_far (p := ⟨gb280, 1, none⟩) (by first | (rw [add_block]; exact hn281_1) | (show (Addr.add _ _).block ≠ _; rw [add_block]; exact hn281_1) | exact hn281_1) (.slice Ao127 t276.length co127)).trans hx281_2
              clear hn281_0
              clear hn281_1
              replace p281 := eq_true p281
              replace q281 := eq_true q281
              go_wp2_with (first | ((with_reducible refine gate_callee (f := 14) rfl ?_); refine goesL_ (some 63) rfl rfl Try.func14 (by kernel_rfl) rfl #[.agg #[.int .i64 ((rd_T39 l1 x9_1).f0.f0), .int .i64 ((rd_T39 l1 x9_1).f0.f1)]] rfl (by (try simp only [List.map_toArray, List.map_cons, List.map_nil]); first | done | rfl | (simp only [List.length_drop, List.length_take]; rfl)) ?_; (with_reducible refine (place_May.calls ((rd_T39 l1 x9_1).f0.f0) ((rd_T39 l1 x9_1).f0.f1) true _ A129.out).mono ?_); rintro e w132 ⟨rfl, hb⟩; refine ⟨_, rfl, ?_⟩; have n0_ := ak (Kd.R_below (by (with_reducible repeat (first | apply ra | apply rn | apply rw1)); exact (Kd.R_mono (Kd.R_far (p := ⟨gb280, 1, none⟩) (Kd.R_far (p := ⟨gb280, 0, none⟩) (Kd.R_types HoL.out BK280.out (by decide)) (fun _ hk => hk.2) (.int .i64 t275)) (fun _ hk => hk.2) (.slice Ao127 t276.length co127)) (fun _ h_ => h_.1))) hb); have n1_ := ak (Kd.R_below (by (with_reducible repeat (first | apply ra | apply rn | apply rw1)); exact (Kd.R_mono (Kd.R_far (p := ⟨gb280, 1, none⟩) (Kd.R_far (p := ⟨gb280, 0, none⟩) (Kd.R_types HO278.out BK280.out (by decide)) (fun _ hk => hk.2) (.int .i64 t275)) (fun _ hk => hk.2) (.slice Ao127 t276.length co127)) (fun _ h_ => h_.1))) hb); have n2_ := ak (blk_below (g := gb272) (o := .cells #[.int .i64 xE, .slice Ao121 xL.length co121] 24 (0, 0)) (by (with_reducible repeat (first | refine kn ?_ _ | refine kd ?_ | refine ka ?_ _)); refine blk_far ?_ NB272_280.out _; (with_reducible repeat (first | refine kn ?_ _ | refine kd ?_ | refine ka ?_ _)); refine blk_far ?_ NB272_280.out _; (with_reducible repeat (first | refine kn ?_ _ | refine kd ?_ | refine ka ?_ _)); exact BK272.out) hb); have n3_ := ak (blk_below (g := gb280) (o := .cells #[.int .i64 t275, .slice Ao127 t276.length co127] 24 (0, 0)) (by (with_reducible repeat (first | refine kn ?_ _ | refine kd ?_ | refine ka ?_ _)); refine blk_put (cs := #[.int .i64 t275, .slice none 0 0]) ?_ 1 _ rfl; (with_reducible repeat (first | refine kn ?_ _ | refine kd ?_ | refine ka ?_ _)); refine blk_put (cs := #[.int .i64 0, .slice none 0 0]) ?_ 0 _ rfl; (with_reducible repeat (first | refine kn ?_ _ | refine kd ?_ | refine ka ?_ _)); exact BK280.out) hb); have n4_ := ak (below_step (by repeat (first | (with_reducible first | exact HB.out | apply ba | apply bd | apply b1 | refine bs ?_ GE272.out | refine bs ?_ GE280.out) | exact HB.out)) hb); clear HoL; clear HO278; clear BK272; clear BK280; clear HB; have HoL := n0_; have HO278 := n1_; have BK272 := n2_; have BK280 := n3_; have HB := n4_; clear n0_ n1_ n2_ n3_ n4_; (try clear hb); (try clear hb2); (try clear hk); (try clear hi); have p283 : 0 ≤ (x9_1 : Int) := of_decide_eq_true (by first | (with_reducible assumption) | assumption); have q283 : x9_1 < (l1.length : Int) := of_decide_eq_true (by first | (with_reducible assumption) | assumption); obtain ⟨ad283, e283, hx283_0, hx283_1, hx283_2⟩ := at_T39 HR1.out x9_1 p283 q283; obtain rfl : ad273 = ad283 := (by injection e283); replace hx283_0 := pw_cell_below HB.out hx283_0; replace hx283_1 := pw_cell_below HB.out hx283_1; replace hx283_2 := pw_cell_below HB.out hx283_2; replace p283 := eq_true p283; replace q283 := eq_true q283; have p284 : 0 ≤ (x9_1 : Int) := of_decide_eq_true (by first | (with_reducible assumption) | assumption); have q284 : x9_1 < (l1.length : Int) := of_decide_eq_true (by first | (with_reducible assumption) | assumption); obtain ⟨ad284, e284, hx284_0, hx284_1, hx284_2⟩ := at_T39 HR1.out x9_1 p284 q284; obtain rfl : ad273 = ad284 := (by injection e284); replace hx284_0 := pw_cell_below HB.out hx284_0; replace hx284_1 := pw_cell_below HB.out hx284_1; replace hx284_2 := pw_cell_below HB.out hx284_2; replace p284 := eq_true p284; replace q284 := eq_true q284))
              go_meet
              case rel => exact ⟨_, (decide (((rd_T39 l1 x9_1).f1) ≤ 6)), (by first | rfl | (simp; done) | (simp [*]; done)), H', ⟨by have := HK1.out; have := HJ9.out; first | omega | exact Nat.le_refl _⟩, ⟨by (with_reducible repeat (first | apply ra | apply rn | apply rw1)); exact HoL.out⟩, ⟨by (with_reducible repeat (first | apply ra | apply rn | apply rw1)); exact HO278.out⟩, ⟨by (with_reducible repeat (first | refine kn ?_ _ | refine kd ?_ | refine ka ?_ _)); exact BK272.out⟩, ⟨by (with_reducible repeat (first | refine kn ?_ _ | refine kd ?_ | refine ka ?_ _)); exact BK280.out⟩, ⟨by repeat (first | (with_reducible first | exact HB.out | apply ba | apply bd | apply b1 | refine bs ?_ GE272.out | refine bs ?_ GE280.out) | exact HB.out)⟩⟩
            ·rw [if_neg c131] at H
             have c131b0 : decide (1 ≤ ((rd_T39 l1 x9_1).f1)) = false := decide_eq_false c131
             clear c131
             (first | rw [c131b0] | (simp only [i64_w, i32_w]; rw [c131b0]) | skip)
             as_aux_lemma =>
              have H' := Aside0.mk H
              clear H
              have p281 : 0 ≤ (x9_1 : Int) := of_decide_eq_true (by first | (with_reducible assumption) | assumption)
              have q281 : x9_1 < (l1.length : Int) := of_decide_eq_true (by first | (with_reducible assumption) | assumption)
              obtain ⟨ad281, e281, hx281_0, hx281_1, hx281_2⟩ := at_T39 HR1.out x9_1 p281 q281
              obtain rfl : ad273 = ad281 := (by injection e281)
              have hn281_0 : ad273.block ≠ gb280 := Nat.ne_of_lt (Nat.lt_of_lt_of_le (by have := World.block_lt_of_cell? _ _ hx281_0; first | rwa [add_block] at this | exact this) GW280.out)
              have hn281_1 : ad273.block ≠ gb280 := Nat.ne_of_lt (Nat.lt_of_lt_of_le (by have := World.block_lt_of_cell? _ _ hx281_0; first | rwa [add_block] at this | exact this) GW280.out)
              replace hx281_0 := pw_cell_below HB.out hx281_0
              replace hx281_1 := pw_cell_below HB.out hx281_1
              replace hx281_2 := pw_cell_below HB.out hx281_2
              replace hx281_0 := (cell_far (p := ⟨gb280, 0, none⟩) (by first | (rw [add_block]; exact hn281_0) | (show (Addr.add _ _).block ≠ _; rw [add_block]; exact hn281_0) | exact hn281_0) (.int .i64 t275)).trans hx281_0
              replace hx281_1 := (cell_far (p := ⟨gb280, 0, none⟩) (by first | (rw [add_block]; exact hn281_0) | (show (Addr.add _ _).block ≠ _; rw [add_block]; exact hn281_0) | exact hn281_0) (.int .i64 t275)).trans hx281_1
              replace hx281_2 := (cell_far (p := ⟨gb280, 0, none⟩) (by first | (rw [add_block]; exact hn281_0) | (show (Addr.add _ _).block ≠ _; rw [add_block]; exact hn281_0) | exact hn281_0) (.int .i64 t275)).trans hx281_2
              replace hx281_0 := (cell_far (p := ⟨gb280, 1, none⟩) (by first | (rw [add_block]; exact hn281_1) | (show (Addr.add _ _).block ≠ _; rw [add_block]; exact hn281_1) | exact hn281_1) (.slice Ao127 t276.length co127)).trans hx281_0
              replace hx281_1 := (cell_far (p := ⟨gb280, 1, none⟩) (by first | (rw [add_block]; exact hn281_1) | (show (Addr.add _ _).block ≠ _; rw [add_block]; exact hn281_1) | exact hn281_1) (.slice Ao127 t276.length co127)).trans hx281_1
              replace hx281_2 := (cell_far (p := ⟨gb280, 1, none⟩) (by first | (rw [add_block]; exact hn281_1) | (show (Addr.add _ _).block ≠ _; rw [add_block]; exact hn281_1) | exact hn281_1) (.slice Ao127 t276.length co127)).trans hx281_2
              clear hn281_0
              clear hn281_1
              replace p281 := eq_true p281
              replace q281 := eq_true q281
              go_wp2_with (first | ((with_reducible refine gate_callee (f := 14) rfl ?_); refine goesL_ (some 63) rfl rfl Try.func14 (by kernel_rfl) rfl #[.agg #[.int .i64 ((rd_T39 l1 x9_1).f0.f0), .int .i64 ((rd_T39 l1 x9_1).f0.f1)]] rfl (by (try simp only [List.map_toArray, List.map_cons, List.map_nil]); first | done | rfl | (simp only [List.length_drop, List.length_take]; rfl)) ?_; (with_reducible refine (place_May.calls ((rd_T39 l1 x9_1).f0.f0) ((rd_T39 l1 x9_1).f0.f1) true _ A129.out).mono ?_); rintro e w133 ⟨rfl, hb⟩; refine ⟨_, rfl, ?_⟩; have n0_ := ak (Kd.R_below (by (with_reducible repeat (first | apply ra | apply rn | apply rw1)); exact (Kd.R_mono (Kd.R_far (p := ⟨gb280, 1, none⟩) (Kd.R_far (p := ⟨gb280, 0, none⟩) (Kd.R_types HoL.out BK280.out (by decide)) (fun _ hk => hk.2) (.int .i64 t275)) (fun _ hk => hk.2) (.slice Ao127 t276.length co127)) (fun _ h_ => h_.1))) hb); have n1_ := ak (Kd.R_below (by (with_reducible repeat (first | apply ra | apply rn | apply rw1)); exact (Kd.R_mono (Kd.R_far (p := ⟨gb280, 1, none⟩) (Kd.R_far (p := ⟨gb280, 0, none⟩) (Kd.R_types HO278.out BK280.out (by decide)) (fun _ hk => hk.2) (.int .i64 t275)) (fun _ hk => hk.2) (.slice Ao127 t276.length co127)) (fun _ h_ => h_.1))) hb); have n2_ := ak (blk_below (g := gb272) (o := .cells #[.int .i64 xE, .slice Ao121 xL.length co121] 24 (0, 0)) (by (with_reducible repeat (first | refine kn ?_ _ | refine kd ?_ | refine ka ?_ _)); refine blk_far ?_ NB272_280.out _; (with_reducible repeat (first | refine kn ?_ _ | refine kd ?_ | refine ka ?_ _)); refine blk_far ?_ NB272_280.out _; (with_reducible repeat (first | refine kn ?_ _ | refine kd ?_ | refine ka ?_ _)); exact BK272.out) hb); have n3_ := ak (blk_below (g := gb280) (o := .cells #[.int .i64 t275, .slice Ao127 t276.length co127] 24 (0, 0)) (by (with_reducible repeat (first | refine kn ?_ _ | refine kd ?_ | refine ka ?_ _)); refine blk_put (cs := #[.int .i64 t275, .slice none 0 0]) ?_ 1 _ rfl; (with_reducible repeat (first | refine kn ?_ _ | refine kd ?_ | refine ka ?_ _)); refine blk_put (cs := #[.int .i64 0, .slice none 0 0]) ?_ 0 _ rfl; (with_reducible repeat (first | refine kn ?_ _ | refine kd ?_ | refine ka ?_ _)); exact BK280.out) hb); have n4_ := ak (below_step (by repeat (first | (with_reducible first | exact HB.out | apply ba | apply bd | apply b1 | refine bs ?_ GE272.out | refine bs ?_ GE280.out) | exact HB.out)) hb); clear HoL; clear HO278; clear BK272; clear BK280; clear HB; have HoL := n0_; have HO278 := n1_; have BK272 := n2_; have BK280 := n3_; have HB := n4_; clear n0_ n1_ n2_ n3_ n4_; (try clear hb); (try clear hb2); (try clear hk); (try clear hi); have p283 : 0 ≤ (x9_1 : Int) := of_decide_eq_true (by first | (with_reducible assumption) | assumption); have q283 : x9_1 < (l1.length : Int) := of_decide_eq_true (by first | (with_reducible assumption) | assumption); obtain ⟨ad283, e283, hx283_0, hx283_1, hx283_2⟩ := at_T39 HR1.out x9_1 p283 q283; obtain rfl : ad273 = ad283 := (by injection e283); replace hx283_0 := pw_cell_below HB.out hx283_0; replace hx283_1 := pw_cell_below HB.out hx283_1; replace hx283_2 := pw_cell_below HB.out hx283_2; replace p283 := eq_true p283; replace q283 := eq_true q283))
              go_meet
              case rel => exact ⟨_, (false), (by first | rfl | (simp; done) | (simp [*]; done)), H', ⟨by have := HK1.out; have := HJ9.out; first | omega | exact Nat.le_refl _⟩, ⟨by (with_reducible repeat (first | apply ra | apply rn | apply rw1)); exact HoL.out⟩, ⟨by (with_reducible repeat (first | apply ra | apply rn | apply rw1)); exact HO278.out⟩, ⟨by (with_reducible repeat (first | refine kn ?_ _ | refine kd ?_ | refine ka ?_ _)); exact BK272.out⟩, ⟨by (with_reducible repeat (first | refine kn ?_ _ | refine kd ?_ | refine ka ?_ _)); exact BK280.out⟩, ⟨by repeat (first | (with_reducible first | exact HB.out | apply ba | apply bd | apply b1 | refine bs ?_ GE272.out | refine bs ?_ GE280.out) | exact HB.out)⟩⟩
           ·replace c130 := Bool.eq_false_iff.mpr c130
            subst c130
            have H1 : (racewaylaw15_ChartServes.j2 kj9 l1 a2 x9_1 false xE xL) = some r := by rw [if_neg (show ¬ (false = true) by decide)] at H; exact H
            clear H
            have H := H1
            clear H1
            as_aux_lemma =>
             have H' := Aside0.mk H
             clear H
             have p281 : 0 ≤ (x9_1 : Int) := of_decide_eq_true (by first | (with_reducible assumption) | assumption)
             have q281 : x9_1 < (l1.length : Int) := of_decide_eq_true (by first | (with_reducible assumption) | assumption)
             obtain ⟨ad281, e281, hx281_0, hx281_1, hx281_2⟩ := at_T39 HR1.out x9_1 p281 q281
             obtain rfl : ad273 = ad281 := (by injection e281)
             have hn281_0 : ad273.block ≠ gb280 := Nat.ne_of_lt (Nat.lt_of_lt_of_le (by have := World.block_lt_of_cell? _ _ hx281_0; first | rwa [add_block] at this | exact this) GW280.out)
             have hn281_1 : ad273.block ≠ gb280 := Nat.ne_of_lt (Nat.lt_of_lt_of_le (by have := World.block_lt_of_cell? _ _ hx281_0; first | rwa [add_block] at this | exact this) GW280.out)
             replace hx281_0 := pw_cell_below HB.out hx281_0
             replace hx281_1 := pw_cell_below HB.out hx281_1
             replace hx281_2 := pw_cell_below HB.out hx281_2
             replace hx281_0 := (cell_far (p := ⟨gb280, 0, none⟩) (by first | (rw [add_block]; exact hn281_0) | (show (Addr.add _ _).block ≠ _; rw [add_block]; exact hn281_0) | exact hn281_0) (.int .i64 t275)).trans hx281_0
             replace hx281_1 := (cell_far (p := ⟨gb280, 0, none⟩) (by first | (rw [add_block]; exact hn281_0) | (show (Addr.add _ _).block ≠ _; rw [add_block]; exact hn281_0) | exact hn281_0) (.int .i64 t275)).trans hx281_1
             replace hx281_2 := (cell_far (p := ⟨gb280, 0, none⟩) (by first | (rw [add_block]; exact hn281_0) | (show (Addr.add _ _).block ≠ _; rw [add_block]; exact hn281_0) | exact hn281_0) (.int .i64 t275)).trans hx281_2
             replace hx281_0 := (cell_far (p := ⟨gb280, 1, none⟩) (by first | (rw [add_block]; exact hn281_1) | (show (Addr.add _ _).block ≠ _; rw [add_block]; exact hn281_1) | exact hn281_1) (.slice Ao127 t276.length co127)).trans hx281_0
             replace hx281_1 := (cell_far (p := ⟨gb280, 1, none⟩) (by first | (rw [add_block]; exact hn281_1) | (show (Addr.add _ _).block ≠ _; rw [add_block]; exact hn281_1) | exact hn281_1) (.slice Ao127 t276.length co127)).trans hx281_1
             replace hx281_2 := (cell_far (p := ⟨gb280, 1, none⟩) (by first | (rw [add_block]; exact hn281_1) | (show (Addr.add _ _).block ≠ _; rw [add_block]; exact hn281_1) | exact hn281_1) (.slice Ao127 t276.length co127)).trans hx281_2
             clear hn281_0
             clear hn281_1
             replace p281 := eq_true p281
             replace q281 := eq_true q281
             go_wp2_with (first | ((with_reducible refine gate_callee (f := 14) rfl ?_); refine goesL_ (some 63) rfl rfl Try.func14 (by kernel_rfl) rfl #[.agg #[.int .i64 ((rd_T39 l1 x9_1).f0.f0), .int .i64 ((rd_T39 l1 x9_1).f0.f1)]] rfl (by (try simp only [List.map_toArray, List.map_cons, List.map_nil]); first | done | rfl | (simp only [List.length_drop, List.length_take]; rfl)) ?_; (with_reducible refine (place_May.calls ((rd_T39 l1 x9_1).f0.f0) ((rd_T39 l1 x9_1).f0.f1) false _ A129.out).mono ?_); rintro e w134 ⟨rfl, hb⟩; refine ⟨_, rfl, ?_⟩; have n0_ := ak (Kd.R_below (by (with_reducible repeat (first | apply ra | apply rn | apply rw1)); exact (Kd.R_mono (Kd.R_far (p := ⟨gb280, 1, none⟩) (Kd.R_far (p := ⟨gb280, 0, none⟩) (Kd.R_types HoL.out BK280.out (by decide)) (fun _ hk => hk.2) (.int .i64 t275)) (fun _ hk => hk.2) (.slice Ao127 t276.length co127)) (fun _ h_ => h_.1))) hb); have n1_ := ak (Kd.R_below (by (with_reducible repeat (first | apply ra | apply rn | apply rw1)); exact (Kd.R_mono (Kd.R_far (p := ⟨gb280, 1, none⟩) (Kd.R_far (p := ⟨gb280, 0, none⟩) (Kd.R_types HO278.out BK280.out (by decide)) (fun _ hk => hk.2) (.int .i64 t275)) (fun _ hk => hk.2) (.slice Ao127 t276.length co127)) (fun _ h_ => h_.1))) hb); have n2_ := ak (blk_below (g := gb272) (o := .cells #[.int .i64 xE, .slice Ao121 xL.length co121] 24 (0, 0)) (by (with_reducible repeat (first | refine kn ?_ _ | refine kd ?_ | refine ka ?_ _)); refine blk_far ?_ NB272_280.out _; (with_reducible repeat (first | refine kn ?_ _ | refine kd ?_ | refine ka ?_ _)); refine blk_far ?_ NB272_280.out _; (with_reducible repeat (first | refine kn ?_ _ | refine kd ?_ | refine ka ?_ _)); exact BK272.out) hb); have n3_ := ak (blk_below (g := gb280) (o := .cells #[.int .i64 t275, .slice Ao127 t276.length co127] 24 (0, 0)) (by (with_reducible repeat (first | refine kn ?_ _ | refine kd ?_ | refine ka ?_ _)); refine blk_put (cs := #[.int .i64 t275, .slice none 0 0]) ?_ 1 _ rfl; (with_reducible repeat (first | refine kn ?_ _ | refine kd ?_ | refine ka ?_ _)); refine blk_put (cs := #[.int .i64 0, .slice none 0 0]) ?_ 0 _ rfl; (with_reducible repeat (first | refine kn ?_ _ | refine kd ?_ | refine ka ?_ _)); exact BK280.out) hb); have n4_ := ak (below_step (by repeat (first | (with_reducible first | exact HB.out | apply ba | apply bd | apply b1 | refine bs ?_ GE272.out | refine bs ?_ GE280.out) | exact HB.out)) hb); clear HoL; clear HO278; clear BK272; clear BK280; clear HB; have HoL := n0_; have HO278 := n1_; have BK272 := n2_; have BK280 := n3_; have HB := n4_; clear n0_ n1_ n2_ n3_ n4_; (try clear hb); (try clear hb2); (try clear hk); (try clear hi)))
             go_meet
             case rel => exact ⟨_, (false), (by first | rfl | (simp; done) | (simp [*]; done)), H', ⟨by have := HK1.out; have := HJ9.out; first | omega | exact Nat.le_refl _⟩, ⟨by (with_reducible repeat (first | apply ra | apply rn | apply rw1)); exact HoL.out⟩, ⟨by (with_reducible repeat (first | apply ra | apply rn | apply rw1)); exact HO278.out⟩, ⟨by (with_reducible repeat (first | refine kn ?_ _ | refine kd ?_ | refine ka ?_ _)); exact BK272.out⟩, ⟨by (with_reducible repeat (first | refine kn ?_ _ | refine kd ?_ | refine ka ?_ _)); exact BK280.out⟩, ⟨by repeat (first | (with_reducible first | exact HB.out | apply ba | apply bd | apply b1 | refine bs ?_ GE272.out | refine bs ?_ GE280.out) | exact HB.out)⟩⟩
          case rest =>
           clear HC120
           try clear c1
           try clear p2
           try clear q2
           try clear hx2
           try clear p3
           try clear q3
           try clear hx3
           try clear c4
           try clear c5
           try clear p6
           try clear c8
           try clear c11
           try clear c13
           try clear c14
           try clear c16
           try clear c16b0
           try clear c16b1
           try clear p27
           try clear q27
           try clear hx27
           try clear p28
           try clear q28
           try clear hx28
           try clear p29
           try clear q29
           try clear hx29
           try clear p30
           try clear q30
           try clear hx30
           try clear c49
           try clear c50
           try clear p64
           try clear c116
           try clear c117
           try clear c130
           try clear c131
           try clear c131b0
           try clear hcz118_0
           try clear hcz118_1
           try clear hcz119_0
           try clear hcz119_1
           try clear hfz118_0
           try clear hfz118_1
           try clear hfz119_0
           try clear hfz119_1
           try clear hfz94_0
           try clear hfz94_1
           try clear hfz95_0
           try clear hfz95_1
           try clear hfz98_0
           try clear hfz98_1
           try clear hfz99_0
           try clear hfz99_1
           try clear hx273_0
           try clear hx273_1
           try clear hx273_2
           try clear hx274_0
           try clear hx274_1
           try clear hx274_2
           try clear hx281_0
           try clear hx281_1
           try clear hx281_2
           try clear hx283_0
           try clear hx283_1
           try clear hx283_2
           try clear hx284_0
           try clear hx284_1
           try clear hx284_2
           try clear hx285_0
           try clear hx285_1
           try clear hx285_2
           try clear hx292_0
           try clear hx292_1
           try clear hx292_2
           try clear hx293_0
           try clear hx293_1
           try clear hx293_2
           try clear hx294_0
           try clear hx294_1
           try clear hx294_2
           try clear hx295_0
           try clear hx295_1
           try clear hx295_2
           try clear hx299_0
           try clear hx302_0
           try clear hx302_1
           try clear hx302_2
           try clear hx304_0
           try clear hx304_1
           try clear hx304_2
           try clear hx305_0
           try clear hx305_1
           try clear hx305_2
           try clear hx307_0
           try clear hx307_1
           try clear hx307_2
           try clear p2
           try clear p27
           try clear p273
           try clear p274
           try clear p28
           try clear p281
           try clear p283
           try clear p284
           try clear p285
           try clear p29
           try clear p292
           try clear p293
           try clear p294
           try clear p295
           try clear p299
           try clear p3
           try clear p30
           try clear p302
           try clear p304
           try clear p305
           try clear p307
           try clear p6
           try clear p64
           try clear q2
           try clear q27
           try clear q273
           try clear q274
           try clear q28
           try clear q281
           try clear q283
           try clear q284
           try clear q285
           try clear q29
           try clear q292
           try clear q293
           try clear q294
           try clear q295
           try clear q299
           try clear q3
           try clear q30
           try clear q302
           try clear q304
           try clear q305
           try clear q307
           obtain ⟨kq, x79_119, rfl, HA, HJ119, HoL, HoM, BK272, BK280, HB⟩ := hcut
           cases kq with
           | zero => exact absurd HA.out (by simp [racewaylaw15_ChartServes.j2])
           | succ kj119 =>
            have H := HA.out
            clear HA
            simp only [racewaylaw15_ChartServes.j2] at H
            by_cases c135 : x79_119 = true
            ·subst c135
             have H1 : (some false) = some r := by rw [if_pos rfl] at H; exact H
             clear H
             have H := H1
             clear H1
             exact absurd (Option.some.inj H) (by rw [hrt.out]; decide)
            ·replace c135 := Bool.eq_false_iff.mpr c135
             subst c135
             have H1 : (racewaylaw15_ChartServes.l0 kj119 l1 a2 (wrap64 (x9_1 + 1)) xE xL) = some r := by rw [if_neg (show ¬ (false = true) by decide)] at H; exact H
             clear H
             have H := H1
             clear H1
             as_aux_lemma =>
              have H' := Aside0.mk H
              clear H
              go_wp2
              go_roundg kj119
              case measure => have := HK1.out; have := HJ9.out; have := HJ119.out; omega
              case rel => exact ⟨(wrap64 (x9_1 + 1)), (xE), (xL), (.slice Ao121 xL.length co121), (by first | rfl | (simp; done) | (simp [*]; done)), H', ⟨by have := HK1.out; have := HJ9.out; have := HJ119.out; omega⟩, ⟨by (with_reducible repeat (first | apply ra | apply rn | apply rw1)); exact Kd.R_mono HoL.out (fun _ hk => trivial)⟩, ⟨by (with_reducible repeat (first | refine kn ?_ _ | refine kd ?_ | refine ka ?_ _)); exact BK272.out⟩, ⟨by repeat (first | (with_reducible first | exact HB.out | apply ba | apply bd | apply b1 | refine bs ?_ GE272.out | refine bs ?_ GE280.out) | exact HB.out)⟩⟩
        ·rw [if_neg c14] at H
         exact absurd H (by simp)
       ·rw [if_neg c13] at H
        exact absurd H (by simp)
      ·replace c12 := Bool.eq_false_iff.mpr c12
       subst c12
       have H1 : ((racewaylaw15_works.f kj9).bind fun t311 => (some t311)) = some r := by rw [if_neg (show ¬ (false = true) by decide)] at H; exact H
       clear H
       have H := H1
       clear H1
       replace H := Option.bind_eq_some_iff.mp H
       obtain ⟨t311, A1360, H⟩ := H
       replace H : (some t311) = some r := H
       have A136 := Aside0.mk A1360
       clear A1360
       as_aux_lemma =>
        obtain rfl := Option.some.inj H
        go_wp2_with (first | ((with_reducible refine gate_callee (f := 12) rfl ?_); refine goesL_ (some 208) rfl rfl Try.func12 (by kernel_rfl) rfl #[] rfl (by (try simp only [List.map_toArray, List.map_cons, List.map_nil]); first | done | rfl | (simp only [List.length_drop, List.length_take]; rfl)) ?_; (with_reducible refine (racewaylaw15_works.calls kj9  t311 _ A136.out).mono ?_); rintro e w137 ⟨rfl, hb⟩; refine ⟨_, rfl, ?_⟩; have n0_ := ak (Kd.R_below (by (with_reducible repeat (first | apply ra | apply rn | apply rw1)); exact HoL.out) hb); have n1_ := ak (blk_below (g := gb272) (o := .cells #[.int .i64 xE, u273001] 24 (0, 0)) (by (with_reducible repeat (first | refine kn ?_ _ | refine kd ?_ | refine ka ?_ _)); exact BK272.out) hb); have n2_ := ak (below_step (by repeat (first | (with_reducible first | exact HB.out | apply ba | apply bd | apply b1 | refine bs ?_ GE272.out) | exact HB.out)) hb); clear HoL; clear BK272; clear HB; have HoL := n0_; have BK272 := n1_; have HB := n2_; clear n0_ n1_ n2_; (try clear hb); (try clear hb2); (try clear hk); (try clear hi)))
        go_ret
        exact ⟨by first | rfl | (simp [errW_none, errW_some] <;> rfl) | (simp [*, errW_none, errW_some] <;> rfl), by repeat (first | (with_reducible first | exact HB.out | apply ba | apply bd | apply b1 | refine bs ?_ GE272.out) | exact HB.out)⟩
 ·rw [if_neg c5] at H
  have c5b0 : (t271 == 0) = false := beq_eq_false_iff_ne.mpr c5
  have c5b1 : (t271 != 0) = true := bne_iff_ne.mpr c5
  exact absurd (Option.some.inj H) (by rw [hrt.out]; decide)
-- LAW racewaylaw15_ChartServes

end Go.Proofs.Yteppmdafdopehaa.P
