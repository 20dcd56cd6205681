/- The law BallotVotes, walked by hand: it returns true. No conditions. -/
import Derived.Test.YtjofllllnmfneaaHFew
import Derived.Deep.QuietTactic
import Derived.BigQuiet
import Derived.Deep.LoopGhost
namespace Go.Proofs.Ytjofllllnmfneaa.P
open Go.RowKit Go.Proofs.YtjofllllnmfneaaW.PrintWords Go.Proofs.YtjofllllnmfneaaW.PrintLast Go.Proofs.YtjofllllnmfneaaW.PrintMore
set_option linter.unusedVariables false
set_option linter.unusedSimpArgs false

set_option maxHeartbeats 8000000 in
set_option maxRecDepth 100000 in
theorem votes.calls (A0 A1 : Option Addr) (c0 c1 : Nat) (l0 l1 : List S30) (w : World) (hr0 : Kd.C k30 w A0 l0.length l0) (hc0 : l0.length ≤ c0) (hr1 : Kd.C k30 w A1 l1.length l1) (hc1 : l1.length ≤ c1)
    (hw0 : ∀ x ∈ l0, (Lit.int .i64 x.f0).wf = true) (hw1 : ∀ x ∈ l1, (Lit.int .i64 x.f0).wf = true) :
    Calls Try.prog 5 #[.slice A0 l0.length c0, .slice A1 l1.length c1] w fun e w' => e = .returned (.bool true) ∧ Below w.heap.size w w' := by
  have hW := fun W => racewaylaw09_works.calls true W works_f
  have HF0 := Aside0.mk (fewC A0 c0 l0 w hr0 hc0)
  have HF1 := Aside0.mk (fun W hr => fewC A1 c1 l1 W hr hc1)
  have HR1 := Aside0.mk hr1
  have HWF := Aside0.mk (show ∀ x ∈ [fewV l0, fewV l1].flatten, (Lit.int .i64 x.f0).wf = true from fun x hx => by
    simp only [List.flatten_cons, List.flatten_nil, List.append_nil, List.mem_append] at hx
    exact hx.elim (fewV_wf hw0 x) (fewV_wf hw1 x))
  have HSH := Aside0.mk (show ∀ x ∈ [fewV l0, fewV l1].flatten, x.f2.length ≤ 100 from fun x hx => by
    simp only [List.flatten_cons, List.flatten_nil, List.append_nil, List.mem_append] at hx
    exact hx.elim (fewV_short l0 x) (fewV_short l1 x))
  have n0 := fewV_len l0
  have n1 := fewV_len l1
  clear hr0 hr1 hc1 hw0 hw1
  obtain ⟨La, hLa⟩ : ∃ La, fewV l0 = La := ⟨_, rfl⟩
  obtain ⟨Lb, hLb⟩ : ∃ Lb, fewV l1 = Lb := ⟨_, rfl⟩
  rw [hLa] at HF0 HWF HSH n0
  rw [hLb] at HF1 HWF HSH n1
  clear hLa hLb
  have HM := Aside0.mk (merge_f (ls := [La, Lb]) (by simp; omega) HWF.out (fun x hx => Nat.le_trans (HSH.out x hx) (by omega)))
  have e1 : [La, Lb].flatten = La ++ Lb := by simp
  rw [e1] at HM HSH HWF
  clear e1
  have HBest := Aside0.mk (best_mergeV (La ++ Lb))
  have HRise := Aside0.mk (rise_mergeV (La ++ Lb))
  obtain ⟨l, hl⟩ : ∃ l, mergeV (La ++ Lb) = l := ⟨_, rfl⟩
  rw [hl] at HM HBest HRise
  have hll : l.length ≤ 80 := by rw [← hl]; have := length_mergeV (La ++ Lb); rw [List.length_append] at this; omega
  clear hl
  have HM2 := Aside0.mk (show ballot_Merge.f [l, l] = some l by
    rw [merge_f (by simp; omega) (fun x hx => HWF.out x (HBest.out.1 x (by simpa using hx))) (fun x hx => Nat.le_trans (HSH.out x (HBest.out.1 x (by simpa using hx))) (by omega))]
    rw [show [l, l].flatten = l ++ l by simp, mergeV_twice l HRise.out])
  go_enter Try.func5, Try.ntmps5
  go_wp2_with (first
    | (go_at_call 10; (with_reducible refine HF0.out.mono ?_); rintro e w1 ⟨Aa, ca, rfl, hca, hra, hb1⟩)
    | (go_at_call 10; (with_reducible refine (HF1.out _ (Kd.C_below HR1.out hb1)).mono ?_); rintro e w2 ⟨Ab, cb, rfl, hcb, hrb, hb2⟩
       have hra2 := Kd.C_below hra hb2
       have hbA := hb1.trans (hb2.mono hb1.size)
       clear hra)
    | (go_at_call 11; (with_reducible refine (merge2C l hra2 hca hrb hcb HM.out).mono ?_); rintro e w3 ⟨Al, cl, rfl, hcl, hrl, hb3⟩
       have hra3 := Kd.C_below hra2 hb3
       have hrb3 := Kd.C_below hrb hb3
       have hbB := hbA.trans (hb3.mono hbA.size)
       have FA := Aside0.mk (Kd.C_F k30_heap hra3)
       have FB := Aside0.mk (Kd.C_F k30_heap hrb3)
       have CA := Aside0.mk hra3
       have CB := Aside0.mk hrb3
       have CL := Aside0.mk hrl
       clear hra2 hrb hra3 hrb3 hrl)
    | (at_builtin; refine Kd.N_append_rows k30 (w0 := w3) w3.heap.size rfl _ _ 22 30 (.agg #[(.int .i64 0), (.int .i64 0), (.slice none 0 0)]) 40 rfl Try.underlying22 g_info30 rfl (by decide) (by omega) (.slice (some ⟨w3.heap.size, 0, none⟩) 0 0) [] La Aa La.length ca (fun _ => True) (fun k => k < w3.heap.size) rfl rfl (made_N w3) (Kd.F_alloc FA.out _) (fun k hk => ⟨trivial, fun e => (Nat.ne_of_lt hk) (Option.some.inj e)⟩) (fun _ _ => trivial) ((Below.refl _ w3).alloc (Nat.le_refl _) _) (by simp) (by simp; omega) ?_; intro v5 w5 ho5 hb5 hg5 hat5
       have N5 := Aside0.mk ho5
       clear ho5 hg5 hat5)
    | (at_builtin; refine Kd.N_append_rows k30 (w0 := w3) w3.heap.size rfl _ _ 22 30 (.agg #[(.int .i64 0), (.int .i64 0), (.slice none 0 0)]) 40 rfl Try.underlying22 g_info30 rfl (by decide) (by omega) v5 ([] ++ La) Lb Ab Lb.length cb (fun _ => True) (fun k => k < w3.heap.size) rfl rfl N5.out (Kd.F_below FB.out hb5) (fun k hk => ⟨trivial, fun e => by have h1 := Kd.N_base N5.out k e.symm; omega⟩) (fun _ _ => trivial) hb5 hb5.size (by simp; omega) ?_; intro v6 w6 ho6 hb6 hg6 hat6
       have N6 := Aside0.mk ho6
       clear ho6 hg6 hat6))
  obtain ⟨A6, c6, rfl, hc6, hr6⟩ := Kd.N_reads N6.out
  rw [List.nil_append] at hr6 hc6
  rw [List.nil_append]
  have CALL := Aside0.mk hr6
  have CL6 := Aside0.mk (Kd.C_below CL.out hb6)
  have HB6 := Aside0.mk (hbB.trans (hb6.mono hbB.size))
  clear N6 N5 CL FA FB CA CB hr6 HF0 HF1 HR1 hbA hbB hb1 hb2 hb3 hb5 hb6 hca hcb
  have hbig : l.length ≤ 9223372036854775807 := by omega
  have hbig2 : (La ++ Lb).length ≤ 9223372036854775807 := by rw [List.length_append]; omega
  obtain ⟨S, hS⟩ : ∃ S, La ++ Lb = S := ⟨_, rfl⟩
  rw [hS] at HBest HWF HSH hc6 CALL hbig2
  rw [hS]
  have hSn : S.length ≤ 80 := by rw [← hS, List.length_append]; omega
  clear hS HM hc0 n0 n1
  go_loopg [34] l.length (fun kq v34 w' => ∃ i : Nat, v34 = .int .i64 i ∧ i ≤ l.length ∧ l.length - i ≤ kq ∧ Aside0 (Below w6.heap.size w6 w'))
  case atStart => exact ⟨0, rfl, Nat.zero_le _, by omega, ⟨Below.refl _ _⟩⟩
  case round =>
    rename World => wo
    obtain ⟨i, rfl, hi, hg, HB⟩ := hrel
    by_cases hlt : i < l.length
    · have hltz : (i : Int) < (l.length : Int) := by omega
      obtain ⟨ad, A2, c2, rfl, hx0, hx1, hx2, hc2, hr2⟩ := at_T30 CL6.out (i : Int) (by omega) (by omega)
      replace hx0 := (HB.out.cell (World.block_lt_of_cell? w6 _ hx0)).trans hx0
      replace hx1 := (HB.out.cell (World.block_lt_of_cell? w6 _ hx1)).trans hx1
      replace hx2 := (HB.out.cell (World.block_lt_of_cell? w6 _ hx2)).trans hx2
      have HC2 := Aside0.mk hr2
      have HVI := Aside0.mk (getD_mem (l := l) z30 hlt)
      rw [← rdT_getD] at HVI
      simp only [Int.toNat_natCast] at hx0 hx1 hx2
      have HRI := Aside0.mk (fun j (hj : j < i) => rise_get HRise.out z30 hj hlt)
      rw [← rdT_getD] at HRI
      obtain ⟨v, hv⟩ : ∃ v, v = rd_T30 l (i : Int) := ⟨_, rfl⟩
      rw [← hv] at hx0 hx1 hx2 hc2 HVI HC2 HRI
      clear hv hr2
      obtain ⟨k0, hk0, hkv⟩ := mem_getD z30 (HBest.out.1 v HVI.out)
      have HK0 := Aside0.mk hk0
      have HKV := Aside0.mk hkv
      clear hk0 hkv
      by_cases hi0 : i = 0
      · have hid : decide (0 < i) = false := decide_eq_false (by omega)
        clear hi0
        go_wp2
        go_quiet (fail)
        go_wp2
        have HBV := Aside0.mk (show Below w6.heap.size w6 ((wo.alloc (.cells #[.int .i64 v.f0, .int .i64 v.f1, .slice A2 v.f2.length c2] 30)).drewN nq) from pw_below_drewN (below_alloc HB.out _) _)
        have HVB := Aside0.mk (show ((wo.alloc (.cells #[.int .i64 v.f0, .int .i64 v.f1, .slice A2 v.f2.length c2] 30)).drewN nq).heap[wo.heap.size]? = some (.cells #[.int .i64 v.f0, .int .i64 v.f1, .slice A2 v.f2.length c2] 30 (0, 0)) from heap_alloc_new wo _)
        go_loopg [9, 54] S.length (fun kq v9 v54 w' => ∃ (j : Nat) (b : Bool), v54 = .int .i64 j ∧ v9 = .bool b ∧ j ≤ S.length ∧ S.length - j ≤ kq ∧ Aside0 (k0 < j → b = true) ∧ Aside0 (Below w6.heap.size w6 w') ∧ Aside0 (w'.heap[wo.heap.size]? = some (.cells #[.int .i64 v.f0, .int .i64 v.f1, .slice A2 v.f2.length c2] 30 (0, 0))))
        case atStart => exact ⟨0, false, rfl, rfl, Nat.zero_le _, by omega, ⟨fun h => absurd h (Nat.not_lt_zero _)⟩, HBV, HVB⟩
        case round =>
          clear HBV HVB hx0 hx1 hx2
          obtain ⟨j, b, rfl, rfl, hj, hg2, HKJ, HBJ, HV0⟩ := hrel
          have hv0 : wr.cell? ⟨wo.heap.size, 0, none⟩ = some (.int .i64 v.f0) := (blk_cell HV0.out 0).trans rfl
          have hv1 : wr.cell? ⟨wo.heap.size, 1, none⟩ = some (.int .i64 v.f1) := (blk_cell HV0.out 1).trans rfl
          have hv2 : wr.cell? ⟨wo.heap.size, 2, none⟩ = some (.slice A2 v.f2.length c2) := (blk_cell HV0.out 2).trans rfl
          have hvl := blk_lt HV0.out
          have hvn := Nat.ne_of_lt hvl
          by_cases hltj : j < S.length
          · have hltjz : (j : Int) < (S.length : Int) := by omega
            obtain ⟨ad3, A3, c3, rfl, hy0, hy1, hy2, hc3, hr3⟩ := at_T30 CALL.out (j : Int) (by omega) (by omega)
            replace hy0 := (HBJ.out.cell (World.block_lt_of_cell? w6 _ hy0)).trans hy0
            replace hy1 := (HBJ.out.cell (World.block_lt_of_cell? w6 _ hy1)).trans hy1
            replace hy2 := (HBJ.out.cell (World.block_lt_of_cell? w6 _ hy2)).trans hy2
            simp only [Int.toNat_natCast] at hy0 hy1 hy2
            have HX := Aside0.mk (rdT_getD S j)
            have HXB := Aside0.mk (fun e => HBest.out.2.1 v HVI.out _ (getD_mem z30 hltj) e)
            rw [← rdT_getD] at HXB
            obtain ⟨x, hx⟩ : ∃ x, x = rd_T30 S (j : Int) := ⟨_, rfl⟩
            rw [← hx] at hy0 hy1 hy2 hc3 hr3 HX HXB
            have hcx := Kd.C_string (P := Try.prog) (c := c3) Try.underlying28 Try.underlying5 Try.underlying9 (Kd.C_alloc (Kd.C_below hr3 HBJ.out) (.cells #[.int .i64 x.f0, .int .i64 x.f1, .slice A3 x.f2.length c3] 30))
            have hcw := Kd.C_string (P := Try.prog) (c := c2) Try.underlying28 Try.underlying5 Try.underlying9 (Kd.C_alloc (Kd.C_below HC2.out HBJ.out) (.cells #[.int .i64 x.f0, .int .i64 x.f1, .slice A3 x.f2.length c3] 30))
            have HXV := Aside0.mk (show k0 = j → x = v from fun e => by rw [HX.out, ← e]; exact HKV.out)
            clear hx hr3
            by_cases e1 : x.f0 = v.f0
            · have f2 : decide (v.f1 < x.f1) = false := decide_eq_false (by have := HXB.out e1; omega)
              have f1 : (x.f0 == v.f0) = true := beq_iff_eq.2 e1
              have E1 := Aside0.mk e1
              clear e1
              cases b with
              | true =>
                go_wp2
                go_roundg (S.length - (j + 1))
                case measure => omega
                case rel => exact ⟨j + 1, true, by go_num, rfl, by omega, by omega, ⟨fun _ => rfl⟩, ⟨by repeat (first | exact HBJ.out | refine below_alloc ?_ _ | refine pw_below_drewN ?_ _)⟩, ⟨by repeat (first | exact HV0.out | refine blk_alloc ?_ _ | refine blk_drewN ?_ _)⟩⟩
              | false =>
                by_cases e2 : x.f1 = v.f1
                · have f3 : (x.f1 == v.f1) = true := beq_iff_eq.2 e2
                  clear e2
                  obtain ⟨q, hq⟩ : ∃ q, ((strOfNums x.f2).toList == (strOfNums v.f2).toList) = q := ⟨_, rfl⟩
                  go_wp2
                  go_roundg (S.length - (j + 1))
                  case measure => omega
                  case rel => exact ⟨j + 1, q, by go_num, rfl, by omega, by omega, ⟨fun h => by
                    rcases Nat.lt_or_ge k0 j with h1 | h1
                    · exact absurd (HKJ.out h1) (by decide)
                    · rw [← hq, HXV.out (by omega)]; exact beq_self_eq_true _⟩, ⟨by repeat (first | exact HBJ.out | refine below_alloc ?_ _ | refine pw_below_drewN ?_ _)⟩, ⟨by repeat (first | exact HV0.out | refine blk_alloc ?_ _ | refine blk_drewN ?_ _)⟩⟩
                · have f3 : (x.f1 == v.f1) = false := beq_eq_false_iff_ne.2 e2
                  have E2 := Aside0.mk e2
                  clear e2
                  go_wp2
                  go_roundg (S.length - (j + 1))
                  case measure => omega
                  case rel => exact ⟨j + 1, false, by go_num, rfl, by omega, by omega, ⟨fun h => by
                    rcases Nat.lt_or_ge k0 j with h1 | h1
                    · exact absurd (HKJ.out h1) (by decide)
                    · exact absurd (by rw [HXV.out (by omega)]) E2.out⟩, ⟨by repeat (first | exact HBJ.out | refine below_alloc ?_ _ | refine pw_below_drewN ?_ _)⟩, ⟨by repeat (first | exact HV0.out | refine blk_alloc ?_ _ | refine blk_drewN ?_ _)⟩⟩
            · have f1 : (x.f0 == v.f0) = false := beq_eq_false_iff_ne.2 e1
              have E1 := Aside0.mk e1
              clear e1
              cases b with
              | true =>
                go_wp2
                go_roundg (S.length - (j + 1))
                case measure => omega
                case rel => exact ⟨j + 1, true, by go_num, rfl, by omega, by omega, ⟨fun _ => rfl⟩, ⟨by repeat (first | exact HBJ.out | refine below_alloc ?_ _ | refine pw_below_drewN ?_ _)⟩, ⟨by repeat (first | exact HV0.out | refine blk_alloc ?_ _ | refine blk_drewN ?_ _)⟩⟩
              | false =>
                go_wp2
                go_roundg (S.length - (j + 1))
                case measure => omega
                case rel => exact ⟨j + 1, false, by go_num, rfl, by omega, by omega, ⟨fun h => by
                    rcases Nat.lt_or_ge k0 j with h1 | h1
                    · exact absurd (HKJ.out h1) (by decide)
                    · exact absurd (by rw [HXV.out (by omega)]) E1.out⟩, ⟨by repeat (first | exact HBJ.out | refine below_alloc ?_ _ | refine pw_below_drewN ?_ _)⟩, ⟨by repeat (first | exact HV0.out | refine blk_alloc ?_ _ | refine blk_drewN ?_ _)⟩⟩
          · have hltjz : ¬ (j : Int) < (S.length : Int) := by omega
            obtain rfl : b = true := HKJ.out (by have := HK0.out; omega)
            go_wp2
            go_roundg (l.length - (i + 1))
            case measure => omega
            case rel => exact ⟨i + 1, by go_num, by omega, by omega, HBJ⟩
      · obtain ⟨m, hm⟩ : ∃ m, i = m + 1 := ⟨i - 1, by omega⟩
        obtain ⟨ad', A3, c3, hae, hy0, hy1, hy2, hc3, hr3⟩ := at_T30 (Kd.C_below CL6.out HB.out) (m : Int) (by omega) (by omega)
        cases hae
        simp only [Int.toNat_natCast] at hy0
        have hle : decide (v.f0 ≤ (rd_T30 l (m : Int)).f0) = false := decide_eq_false (by have := HRI.out m (by omega); rw [← rdT_getD] at this; omega)
        obtain ⟨z, hz⟩ : ∃ z, z = (rd_T30 l (m : Int)).f0 := ⟨_, rfl⟩
        rw [← hz] at hy0 hle
        clear hy1 hy2 hc3 hr3 hz
        have hid : decide (0 < i) = true := decide_eq_true (by omega)
        have hwm : wrap64 ((i : Int) - 1) = (m : Int) := by rw [w64 (by omega) (by omega)]; omega
        have hwm2 : IntKind.i64.wrap ((i : Int) - 1) = (m : Int) := (i64_w _).trans hwm
        have hlm : (m : Int) < (l.length : Int) := by omega
        have hbl := World.block_lt_of_cell? wo (ad.add (m * 3)) hy0
        have hbn := Nat.ne_of_lt hbl
        clear hi0 hm
        go_wp2
        go_quiet (fail)
        go_wp2
        have HBV := Aside0.mk (show Below w6.heap.size w6 ((wo.alloc (.cells #[.int .i64 v.f0, .int .i64 v.f1, .slice A2 v.f2.length c2] 30)).drewN nq) from pw_below_drewN (below_alloc HB.out _) _)
        have HVB := Aside0.mk (show ((wo.alloc (.cells #[.int .i64 v.f0, .int .i64 v.f1, .slice A2 v.f2.length c2] 30)).drewN nq).heap[wo.heap.size]? = some (.cells #[.int .i64 v.f0, .int .i64 v.f1, .slice A2 v.f2.length c2] 30 (0, 0)) from heap_alloc_new wo _)
        go_loopg [9, 54] S.length (fun kq v9 v54 w' => ∃ (j : Nat) (b : Bool), v54 = .int .i64 j ∧ v9 = .bool b ∧ j ≤ S.length ∧ S.length - j ≤ kq ∧ Aside0 (k0 < j → b = true) ∧ Aside0 (Below w6.heap.size w6 w') ∧ Aside0 (w'.heap[wo.heap.size]? = some (.cells #[.int .i64 v.f0, .int .i64 v.f1, .slice A2 v.f2.length c2] 30 (0, 0))))
        case atStart => exact ⟨0, false, rfl, rfl, Nat.zero_le _, by omega, ⟨fun h => absurd h (Nat.not_lt_zero _)⟩, HBV, HVB⟩
        case round =>
          clear HBV HVB hx0 hx1 hx2
          obtain ⟨j, b, rfl, rfl, hj, hg2, HKJ, HBJ, HV0⟩ := hrel
          have hv0 : wr.cell? ⟨wo.heap.size, 0, none⟩ = some (.int .i64 v.f0) := (blk_cell HV0.out 0).trans rfl
          have hv1 : wr.cell? ⟨wo.heap.size, 1, none⟩ = some (.int .i64 v.f1) := (blk_cell HV0.out 1).trans rfl
          have hv2 : wr.cell? ⟨wo.heap.size, 2, none⟩ = some (.slice A2 v.f2.length c2) := (blk_cell HV0.out 2).trans rfl
          have hvl := blk_lt HV0.out
          have hvn := Nat.ne_of_lt hvl
          by_cases hltj : j < S.length
          · have hltjz : (j : Int) < (S.length : Int) := by omega
            obtain ⟨ad3, A3, c3, rfl, hy0, hy1, hy2, hc3, hr3⟩ := at_T30 CALL.out (j : Int) (by omega) (by omega)
            replace hy0 := (HBJ.out.cell (World.block_lt_of_cell? w6 _ hy0)).trans hy0
            replace hy1 := (HBJ.out.cell (World.block_lt_of_cell? w6 _ hy1)).trans hy1
            replace hy2 := (HBJ.out.cell (World.block_lt_of_cell? w6 _ hy2)).trans hy2
            simp only [Int.toNat_natCast] at hy0 hy1 hy2
            have HX := Aside0.mk (rdT_getD S j)
            have HXB := Aside0.mk (fun e => HBest.out.2.1 v HVI.out _ (getD_mem z30 hltj) e)
            rw [← rdT_getD] at HXB
            obtain ⟨x, hx⟩ : ∃ x, x = rd_T30 S (j : Int) := ⟨_, rfl⟩
            rw [← hx] at hy0 hy1 hy2 hc3 hr3 HX HXB
            have hcx := Kd.C_string (P := Try.prog) (c := c3) Try.underlying28 Try.underlying5 Try.underlying9 (Kd.C_alloc (Kd.C_below hr3 HBJ.out) (.cells #[.int .i64 x.f0, .int .i64 x.f1, .slice A3 x.f2.length c3] 30))
            have hcw := Kd.C_string (P := Try.prog) (c := c2) Try.underlying28 Try.underlying5 Try.underlying9 (Kd.C_alloc (Kd.C_below HC2.out HBJ.out) (.cells #[.int .i64 x.f0, .int .i64 x.f1, .slice A3 x.f2.length c3] 30))
            have HXV := Aside0.mk (show k0 = j → x = v from fun e => by rw [HX.out, ← e]; exact HKV.out)
            clear hx hr3
            by_cases e1 : x.f0 = v.f0
            · have f2 : decide (v.f1 < x.f1) = false := decide_eq_false (by have := HXB.out e1; omega)
              have f1 : (x.f0 == v.f0) = true := beq_iff_eq.2 e1
              have E1 := Aside0.mk e1
              clear e1
              cases b with
              | true =>
                go_wp2
                go_roundg (S.length - (j + 1))
                case measure => omega
                case rel => exact ⟨j + 1, true, by go_num, rfl, by omega, by omega, ⟨fun _ => rfl⟩, ⟨by repeat (first | exact HBJ.out | refine below_alloc ?_ _ | refine pw_below_drewN ?_ _)⟩, ⟨by repeat (first | exact HV0.out | refine blk_alloc ?_ _ | refine blk_drewN ?_ _)⟩⟩
              | false =>
                by_cases e2 : x.f1 = v.f1
                · have f3 : (x.f1 == v.f1) = true := beq_iff_eq.2 e2
                  clear e2
                  obtain ⟨q, hq⟩ : ∃ q, ((strOfNums x.f2).toList == (strOfNums v.f2).toList) = q := ⟨_, rfl⟩
                  go_wp2
                  go_roundg (S.length - (j + 1))
                  case measure => omega
                  case rel => exact ⟨j + 1, q, by go_num, rfl, by omega, by omega, ⟨fun h => by
                    rcases Nat.lt_or_ge k0 j with h1 | h1
                    · exact absurd (HKJ.out h1) (by decide)
                    · rw [← hq, HXV.out (by omega)]; exact beq_self_eq_true _⟩, ⟨by repeat (first | exact HBJ.out | refine below_alloc ?_ _ | refine pw_below_drewN ?_ _)⟩, ⟨by repeat (first | exact HV0.out | refine blk_alloc ?_ _ | refine blk_drewN ?_ _)⟩⟩
                · have f3 : (x.f1 == v.f1) = false := beq_eq_false_iff_ne.2 e2
                  have E2 := Aside0.mk e2
                  clear e2
                  go_wp2
                  go_roundg (S.length - (j + 1))
                  case measure => omega
                  case rel => exact ⟨j + 1, false, by go_num, rfl, by omega, by omega, ⟨fun h => by
                    rcases Nat.lt_or_ge k0 j with h1 | h1
                    · exact absurd (HKJ.out h1) (by decide)
                    · exact absurd (by rw [HXV.out (by omega)]) E2.out⟩, ⟨by repeat (first | exact HBJ.out | refine below_alloc ?_ _ | refine pw_below_drewN ?_ _)⟩, ⟨by repeat (first | exact HV0.out | refine blk_alloc ?_ _ | refine blk_drewN ?_ _)⟩⟩
            · have f1 : (x.f0 == v.f0) = false := beq_eq_false_iff_ne.2 e1
              have E1 := Aside0.mk e1
              clear e1
              cases b with
              | true =>
                go_wp2
                go_roundg (S.length - (j + 1))
                case measure => omega
                case rel => exact ⟨j + 1, true, by go_num, rfl, by omega, by omega, ⟨fun _ => rfl⟩, ⟨by repeat (first | exact HBJ.out | refine below_alloc ?_ _ | refine pw_below_drewN ?_ _)⟩, ⟨by repeat (first | exact HV0.out | refine blk_alloc ?_ _ | refine blk_drewN ?_ _)⟩⟩
              | false =>
                go_wp2
                go_roundg (S.length - (j + 1))
                case measure => omega
                case rel => exact ⟨j + 1, false, by go_num, rfl, by omega, by omega, ⟨fun h => by
                    rcases Nat.lt_or_ge k0 j with h1 | h1
                    · exact absurd (HKJ.out h1) (by decide)
                    · exact absurd (by rw [HXV.out (by omega)]) E1.out⟩, ⟨by repeat (first | exact HBJ.out | refine below_alloc ?_ _ | refine pw_below_drewN ?_ _)⟩, ⟨by repeat (first | exact HV0.out | refine blk_alloc ?_ _ | refine blk_drewN ?_ _)⟩⟩
          · have hltjz : ¬ (j : Int) < (S.length : Int) := by omega
            obtain rfl : b = true := HKJ.out (by have := HK0.out; omega)
            go_wp2
            go_roundg (l.length - (i + 1))
            case measure => omega
            case rel => exact ⟨i + 1, by go_num, by omega, by omega, HBJ⟩
    · have hltz : ¬ (i : Int) < (l.length : Int) := by omega
      go_wp2
      clear hlt hltz hi hg
      go_loopg [100] S.length (fun kq vi w' => ∃ i : Nat, vi = .int .i64 i ∧ i ≤ S.length ∧ S.length - i ≤ kq ∧ Aside0 (Below w6.heap.size w6 w'))
      case atStart => exact ⟨0, rfl, Nat.zero_le _, by omega, HB⟩
      case round =>
        clear HB
        rename World => wp
        obtain ⟨i, rfl, hi, hg, HB⟩ := hrel
        by_cases hlt : i < S.length
        · have hltz : (i : Int) < (S.length : Int) := by omega
          obtain ⟨ad, A2, c2, rfl, hx0, hx1, hx2, hc2, hr2⟩ := at_T30 CALL.out (i : Int) (by omega) (by omega)
          replace hx0 := (HB.out.cell (World.block_lt_of_cell? w6 _ hx0)).trans hx0
          replace hx1 := (HB.out.cell (World.block_lt_of_cell? w6 _ hx1)).trans hx1
          replace hx2 := (HB.out.cell (World.block_lt_of_cell? w6 _ hx2)).trans hx2
          have HVI := Aside0.mk (getD_mem (l := S) z30 hlt)
          rw [← rdT_getD] at HVI
          simp only [Int.toNat_natCast] at hx0 hx1 hx2
          obtain ⟨x, hx⟩ : ∃ x, x = rd_T30 S (i : Int) := ⟨_, rfl⟩
          rw [← hx] at hx0 hx1 hx2 HVI
          obtain ⟨v1, hv1, hv1e⟩ := HBest.out.2.2 x HVI.out
          obtain ⟨k0, hk0, hkv⟩ := mem_getD z30 hv1
          have HK0 := Aside0.mk hk0
          have HKV := Aside0.mk (show (l.getD k0 z30).f0 = x.f0 by rw [hkv]; exact hv1e)
          clear hx hr2 hc2 hk0 hkv hv1 hv1e
          go_wp2
          have HBV := Aside0.mk (show Below w6.heap.size w6 (wp.alloc (.cells #[.int .i64 x.f0, .int .i64 x.f1, .slice A2 x.f2.length c2] 30)) from below_alloc HB.out _)
          have HVB := Aside0.mk (show (wp.alloc (.cells #[.int .i64 x.f0, .int .i64 x.f1, .slice A2 x.f2.length c2] 30)).heap[wp.heap.size]? = some (.cells #[.int .i64 x.f0, .int .i64 x.f1, .slice A2 x.f2.length c2] 30 (0, 0)) from heap_alloc_new wp _)
          go_loopg [14, 106] l.length (fun kq v12 vj w' => ∃ (j : Nat) (b : Bool), vj = .int .i64 j ∧ v12 = .bool b ∧ j ≤ l.length ∧ l.length - j ≤ kq ∧ Aside0 (k0 < j → b = true) ∧ Aside0 (Below w6.heap.size w6 w') ∧ Aside0 (w'.heap[wp.heap.size]? = some (.cells #[.int .i64 x.f0, .int .i64 x.f1, .slice A2 x.f2.length c2] 30 (0, 0))))
          case atStart => exact ⟨0, false, rfl, rfl, Nat.zero_le _, by omega, ⟨fun h => absurd h (Nat.not_lt_zero _)⟩, HBV, HVB⟩
          case round =>
            clear HBV HVB hx0 hx1 hx2
            obtain ⟨j, b, rfl, rfl, hj, hg2, HKJ, HBJ, HV0⟩ := hrel
            have hv0 : wr.cell? ⟨wp.heap.size, 0, none⟩ = some (.int .i64 x.f0) := (blk_cell HV0.out 0).trans rfl
            have hvl := blk_lt HV0.out
            have hvn := Nat.ne_of_lt hvl
            by_cases hltj : j < l.length
            · have hltjz : (j : Int) < (l.length : Int) := by omega
              obtain ⟨ad3, A3, c3, rfl, hy0, hy1, hy2, hc3, hr3⟩ := at_T30 CL6.out (j : Int) (by omega) (by omega)
              replace hy0 := (HBJ.out.cell (World.block_lt_of_cell? w6 _ hy0)).trans hy0
              replace hy1 := (HBJ.out.cell (World.block_lt_of_cell? w6 _ hy1)).trans hy1
              replace hy2 := (HBJ.out.cell (World.block_lt_of_cell? w6 _ hy2)).trans hy2
              simp only [Int.toNat_natCast] at hy0 hy1 hy2
              have HX := Aside0.mk (rdT_getD l j)
              obtain ⟨v, hv⟩ : ∃ v, v = rd_T30 l (j : Int) := ⟨_, rfl⟩
              rw [← hv] at hy0 hy1 hy2 hc3 hr3 HX
              clear hv hr3
              cases b with
              | true =>
                go_wp2
                go_roundg (l.length - (j + 1))
                case measure => omega
                case rel => exact ⟨j + 1, true, by go_num, rfl, by omega, by omega, ⟨fun _ => rfl⟩, ⟨by repeat (first | exact HBJ.out | refine below_alloc ?_ _ | refine pw_below_drewN ?_ _)⟩, ⟨by repeat (first | exact HV0.out | refine blk_alloc ?_ _ | refine blk_drewN ?_ _)⟩⟩
              | false =>
                obtain ⟨q, hq⟩ : ∃ q, (v.f0 == x.f0) = q := ⟨_, rfl⟩
                go_wp2
                go_roundg (l.length - (j + 1))
                case measure => omega
                case rel => exact ⟨j + 1, q, by go_num, rfl, by omega, by omega, ⟨fun h => by
                  rcases Nat.lt_or_ge k0 j with h1 | h1
                  · exact absurd (HKJ.out h1) (by decide)
                  · obtain rfl : k0 = j := by omega
                    rw [← hq, HX.out, HKV.out]; exact beq_self_eq_true _⟩, ⟨by repeat (first | exact HBJ.out | refine below_alloc ?_ _ | refine pw_below_drewN ?_ _)⟩, ⟨by repeat (first | exact HV0.out | refine blk_alloc ?_ _ | refine blk_drewN ?_ _)⟩⟩
            · have hltjz : ¬ (j : Int) < (l.length : Int) := by omega
              obtain rfl : b = true := HKJ.out (by have := HK0.out; omega)
              go_wp2
              go_roundg (S.length - (i + 1))
              case measure => omega
              case rel => exact ⟨i + 1, by go_num, by omega, by omega, HBJ⟩
        · have hltz : ¬ (i : Int) < (S.length : Int) := by omega
          clear HWF HSH
          have CLP := Aside0.mk (Kd.C_below CL6.out HB.out)
          go_wp2_with (go_at_call 11; (with_reducible refine (merge2C l CLP.out hcl CLP.out hcl HM2.out).mono ?_); rintro e w7 ⟨Am, cm, rfl, hcm, hrm, hb7⟩
                       have CM := Aside0.mk hrm
                       have HB7 := Aside0.mk (HB.out.trans (hb7.mono HB.out.size))
                       have CL7 := Aside0.mk (Kd.C_below CLP.out hb7)
                       clear hrm hb7)
          clear HB CLP CL6 CALL hlt hltz hi hg
          go_loopg [133] l.length (fun kq vi w' => ∃ i : Nat, vi = .int .i64 i ∧ i ≤ l.length ∧ l.length - i ≤ kq ∧ Aside0 (Below w7.heap.size w7 w'))
          case atStart => exact ⟨0, rfl, Nat.zero_le _, by omega, ⟨Below.refl _ _⟩⟩
          case round =>
            obtain ⟨i, rfl, hi, hg, HB⟩ := hrel
            by_cases hlt : i < l.length
            · have hltz : (i : Int) < (l.length : Int) := by omega
              obtain ⟨ad, A2, c2, rfl, hx0, hx1, hx2, hc2, hr2⟩ := at_T30 CM.out (i : Int) (by omega) (by omega)
              obtain ⟨ad3, A3, c3, rfl, hy0, hy1, hy2, hc3, hr3⟩ := at_T30 CL7.out (i : Int) (by omega) (by omega)
              replace hx0 := (HB.out.cell (World.block_lt_of_cell? w7 _ hx0)).trans hx0
              replace hx1 := (HB.out.cell (World.block_lt_of_cell? w7 _ hx1)).trans hx1
              replace hx2 := (HB.out.cell (World.block_lt_of_cell? w7 _ hx2)).trans hx2
              replace hy0 := (HB.out.cell (World.block_lt_of_cell? w7 _ hy0)).trans hy0
              replace hy1 := (HB.out.cell (World.block_lt_of_cell? w7 _ hy1)).trans hy1
              replace hy2 := (HB.out.cell (World.block_lt_of_cell? w7 _ hy2)).trans hy2
              simp only [Int.toNat_natCast] at hx0 hx1 hx2 hy0 hy1 hy2
              obtain ⟨x, hx⟩ : ∃ x, x = rd_T30 l (i : Int) := ⟨_, rfl⟩
              rw [← hx] at hx0 hx1 hx2 hr2 hy0 hy1 hy2 hr3
              have hcx := fun m_ => Kd.C_string (P := Try.prog) (c := c2) Try.underlying28 Try.underlying5 Try.underlying9 (Kd.C_drewN (Kd.C_below hr2 HB.out) m_)
              have hcy := fun m_ => Kd.C_string (P := Try.prog) (c := c3) Try.underlying28 Try.underlying5 Try.underlying9 (Kd.C_drewN (Kd.C_below hr3 HB.out) m_)
              clear hx hr2 hr3 hc2 hc3
              go_wp2
              go_quiet (fail)
              go_wp2
              go_roundg (l.length - (i + 1))
              case measure => omega
              case rel => exact ⟨i + 1, by go_num, by omega, by omega, ⟨by repeat (first | exact HB.out | refine below_alloc ?_ _ | refine pw_below_drewN ?_ _)⟩⟩
            · have hltz : ¬ (i : Int) < (l.length : Int) := by omega
              go_wp2_with (go_at_call 14; (with_reducible refine (hW _).mono ?_); rintro e w9 ⟨rfl, hb9⟩)
              go_ret
              exact ⟨rfl, (HB6.out.trans (HB7.out.mono HB6.out.size)).trans ((HB.out.mono (Nat.le_trans HB6.out.size HB7.out.size)).trans (hb9.mono (Nat.le_trans (Nat.le_trans HB6.out.size HB7.out.size) HB.out.size)))⟩
end Go.Proofs.Ytjofllllnmfneaa.P
